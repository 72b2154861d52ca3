/- MatchMore: the walk of the law. -/
import Derived.Test.YtdlbhoedmaifpaaMatchW
namespace Go.Proofs.Ytdlbhoedmaifpaa
open Go.RowKit Go.MapKept
theorem bestL_in (B : List UInt8) (q d : Nat) (hq : q < B.length) (hd : 1 ≤ d) : bestL B (q : Int) (d : Int) = PM.best B q d := if_pos ⟨by omega, by omega, by omega⟩
/-- The longest match so far. -/
def MoreInv (B : List UInt8) (k j x : Nat) : Prop := 1 ≤ j ∧ j ≤ k + 1 ∧ (∀ f, 1 ≤ f → f < j → PM.mlen B (k - f) k ≤ x) ∧ (x = 0 ∨ ∃ f, 1 ≤ f ∧ f < j ∧ PM.mlen B (k - f) k = x)
theorem MoreInv.step {B : List UInt8} {k j x m : Nat} (h : MoreInv B k j x) (hj : j ≤ k) (hm : PM.mlen B (k - j) k = m) : MoreInv B k (j + 1) (max x m) := by
  obtain ⟨h1, h2, h3, h4⟩ := h
  refine ⟨by omega, by omega, fun f hf hfj => ?_, ?_⟩
  · by_cases e : f = j
    · subst e; omega
    · have := h3 f hf (by omega); omega
  · by_cases e : x < m
    · exact .inr ⟨j, h1, by omega, by omega⟩
    · rcases h4 with h4 | ⟨f, h5, h6, h7⟩
      · exact .inl (by omega)
      · exact .inr ⟨f, h5, by omega, by omega⟩
theorem MoreInv.end_ {B : List UInt8} {k x : Nat} (h : MoreInv B k (k + 1) x) (hk : k < B.length) (h3 : k ≤ 32768) : (3 ≤ x ↔ 0 < (PM.best B k 32768).1) ∧ (0 < (PM.best B k 32768).1 → (PM.best B k 32768).1 = x) := by
  obtain ⟨_, _, i1, i2⟩ := h
  have p1 : 3 ≤ x → x ≤ (PM.best B k 32768).1 := fun hx => by
    rcases i2 with h | ⟨f, h5, h6, h7⟩
    · omega
    · have hin := PM.mlen_in (B := B) (p := k - f) (q := k) (by omega)
      rw [← h7]
      exact (PM.best_all B k 32768 (by omega) (by omega) h3 f h5 (by omega) (by omega)).1
  have p2 : 0 < (PM.best B k 32768).1 → (PM.best B k 32768).1 ≤ x ∧ 3 ≤ (PM.best B k 32768).1 := fun h => by
    rcases PM.best_is B k 32768 with e | ⟨far, q1, q2, q3, q4, q5, q6⟩
    · rw [e] at h; exact absurd h (Nat.lt_irrefl _)
    · rw [q5]
      exact ⟨i1 far q1 (by omega), q6⟩
  refine ⟨⟨fun h => by have := p1 h; omega, fun h => by have := p2 h; omega⟩, fun h => by have := p2 h; have := p1 (by omega); omega⟩
set_option maxRecDepth 100000 in
set_option maxHeartbeats 4000000 in
theorem more_any (A0 : Option Addr) (ca : Nat) (b0 : List UInt8) (at_ many : Nat) {w0 w : World} {L : List Pr} (H : Sp w0 L w) (hE : Ent L fun w' => Byt w' (.slice A0 b0.length ca) b0) (ha : at_ < 65536) (hm : many < 256) :
    Calls Try.prog 3 #[.slice A0 b0.length ca, .int .u16 (at_ : Int), .int .u8 (many : Int)] w fun e w' => e = .returned (.bool true) ∧ Sp w0 L w' := by
  obtain ⟨hb1, hb2⟩ : b0.length ≤ ca ∧ ca ≤ maxLen := by
    obtain ⟨_, _, e, _, h1, h2⟩ := hE _ _ H
    injection e with _ _ e
    subst e
    exact ⟨h1, h2⟩
  unfold maxLen at hb2
  obtain ⟨n, hn⟩ : ∃ n : Nat, n = min b0.length 300 := ⟨_, rfl⟩
  have hmn : ∀ W : World, (Builtin.min_ #[3, 3] 3 #[.int .i64 (b0.length : Int), .int .i64 300]).run Try.prog W = .ok (.int .i64 (n : Int)) W := fun W => by
    simp [Builtin.min_, Builtin.min2]
    split <;> omega
  have hna : n ≤ b0.length := by omega
  have hnk : n ≤ 300 := by omega
  have hnc : (n : Int) ≤ ca := by omega
  clear hn
  obtain ⟨B, hl⟩ : ∃ B, b0.take n = B := ⟨_, rfl⟩
  have hll : n = B.length := by rw [← hl]; simp; omega
  have hB : Ent L fun w' => Byt w' (.slice A0 n ca) B := hE.mono fun w' h => by rw [← hl]; exact h.take n hna
  have HL := Lib.hid hll
  have HB := Lib.hid hB
  clear hl hll hE hB
  by_cases hn0 : n = 0
  · subst hn0
    have hbst := Best_ok 0 0 1 A0 ca B H HL.out HB.out (by omega)
    have hz : bestL B 0 1 = (0, 0) := if_neg (by rw [← HL.out]; omega)
    rw [hz] at hbst
    clear hz
    go_enter Try.func3, Try.ntmps3
    go_wp2_with fail
    refine hbst.mono ?_
    rintro _ w1 ⟨rfl, H1⟩
    unfold stV
    clear hbst hmn
    go_wp2_with fail
    refine (wakes_ok (H1.alloc _)).mono ?_
    rintro _ w2 ⟨rfl, H2⟩
    go_wp2
    go_ret
    exact ⟨rfl, H2⟩
  · obtain ⟨k, hk⟩ : ∃ k, at_ % n = k := ⟨_, rfl⟩
    have hk1 : (at_ : Int) % (n : Int) = (k : Int) := by rw [← hk]; simp
    have hkn : k < n := by rw [← hk]; exact Nat.mod_lt _ (by omega)
    obtain ⟨d, hd⟩ : ∃ d, many % 16 = d := ⟨_, rfl⟩
    have hd1 : (many : Int) % 16 = (d : Int) := by omega
    have hd16 : d < 16 := by omega
    have hn1 : ((n : Int) == 0) = false := by rw [beq_eq_false_iff_ne]; omega
    have hn2 : ¬ (n : Int) = 0 := by omega
    clear hk hd
    have hqd : ∀ (e : Nat) (x : Int), 1 ≤ e → (e : Int) = x → bestL B (k : Int) x = PM.best B k e := fun e x he hx => by
      rw [← hx]; exact bestL_in B k e (by rw [← HL.out]; exact hkn) he
    obtain ⟨f1, hf1⟩ : ∃ f1, (PM.best B k (d + 1)).1 = f1 := ⟨_, rfl⟩
    obtain ⟨f2, hf2⟩ : ∃ f2, (PM.best B k (d + 1)).2 = f2 := ⟨_, rfl⟩
    obtain ⟨m1, hm1⟩ : ∃ m1, (PM.best B k (d + 2)).1 = m1 := ⟨_, rfl⟩
    obtain ⟨m2, hm2⟩ : ∃ m2, (PM.best B k (d + 2)).2 = m2 := ⟨_, rfl⟩
    obtain ⟨a1, ha1⟩ : ∃ a1, (PM.best B k 32768).1 = a1 := ⟨_, rfl⟩
    obtain ⟨a2, ha2⟩ : ∃ a2, (PM.best B k 32768).2 = a2 := ⟨_, rfl⟩
    have q1 : f1 ≤ m1 := by rw [← hf1, ← hm1]; exact PM.best_le B k _ _ (by omega)
    have q2 : m1 ≤ a1 := by rw [← hm1, ← ha1]; exact PM.best_le B k _ _ (by omega)
    have q3 : f1 = m1 → f2 = m2 := fun h => by
      rcases PM.best_more B k (d + 1) with h2 | h2
      · rw [← hf2, ← hm2]
        show _ = (PM.best B k (d + 1 + 1)).2
        rw [h2]
      · exfalso
        rw [hf1] at h2
        have : (PM.best B k (d + 1 + 1)).1 = m1 := hm1
        omega
    have c1 := fun (w : World) (L' : List Pr) (H : Sp w0 L' w) (hb : Ent L' fun w' => Byt w' (.slice A0 n ca) B) => Best_ok n k (1 + (d : Int)) A0 ca B H HL.out hb (by omega)
    have c2 := fun (w : World) (L' : List Pr) (H : Sp w0 L' w) (hb : Ent L' fun w' => Byt w' (.slice A0 n ca) B) => Best_ok n k (2 + (d : Int)) A0 ca B H HL.out hb (by omega)
    have c3 := fun (w : World) (L' : List Pr) (H : Sp w0 L' w) (hb : Ent L' fun w' => Byt w' (.slice A0 n ca) B) => Best_ok n k 32768 A0 ca B H HL.out hb (by omega)
    rw [hqd (d + 1) _ (by omega) (by omega), hf1, hf2] at c1
    rw [hqd (d + 2) _ (by omega) (by omega), hm1, hm2] at c2
    rw [hqd 32768 _ (by omega) (by omega), ha1, ha2] at c3
    unfold stV at c1 c2 c3
    have C1 := Lib.hid c1
    have C2 := Lib.hid c2
    have C3 := Lib.hid c3
    have HA1 := Lib.hid ha1
    have HA2 := Lib.hid ha2
    have Q3 := Lib.hid q3
    clear hf1 hf2 hm1 hm2 c1 c2 c3 hqd ha1 ha2 q3
    go_enter Try.func3, Try.ntmps3
    go_wp2_with fail
    refine (C1.out _ _ H HB.out).mono ?_
    rintro _ w1 ⟨rfl, H1⟩
    clear hmn
    go_wp2_with fail
    have G1 := H1.newBk [.int .i64 (f1 : Int), .int .i64 (f2 : Int), .int .u8 0] 25
    generalize w1.heap.size = s1 at G1 ⊢
    generalize w1.alloc _ = w2 at G1 ⊢
    refine (C2.out _ _ G1 (Ent.cons _ HB.out)).mono ?_
    rintro _ w3 ⟨rfl, H3⟩
    go_wp2_with fail
    have G3 := H3.newBk [.int .i64 (m1 : Int), .int .i64 (m2 : Int), .int .u8 0] 25
    generalize w3.heap.size = s2 at G3 ⊢
    generalize w3.alloc _ = w4 at G3 ⊢
    refine (C3.out _ _ G3 (Ent.pick 2 [] HB.out)).mono ?_
    rintro _ w5 ⟨rfl, H5⟩
    clear H1 G1 H3 G3 C1 C2 C3
    have G5 := H5.newBk [.int .i64 (a1 : Int), .int .i64 (a2 : Int), .int .u8 0] 25
    have y0 : ∀ o, (w5.alloc o).cell? ⟨s1, 0, none⟩ = some (.int .i64 (f1 : Int)) := fun o => (H5.alloc o).cell 1 rfl 0
    have y1 : ∀ o, (w5.alloc o).cell? ⟨s1, 1, none⟩ = some (.int .i64 (f2 : Int)) := fun o => (H5.alloc o).cell 1 rfl 1
    have y2 : ∀ o, (w5.alloc o).cell? ⟨s2, 0, none⟩ = some (.int .i64 (m1 : Int)) := fun o => (H5.alloc o).cell 0 rfl 0
    have y3 : ∀ o, (w5.alloc o).cell? ⟨s2, 1, none⟩ = some (.int .i64 (m2 : Int)) := fun o => (H5.alloc o).cell 0 rfl 1
    have r1 : decide (m1 < f1) = false := decide_eq_false (by omega)
    have r2 : decide (a1 < m1) = false := decide_eq_false (by omega)
    by_cases p1 : 0 < f1
    · have p2 : 0 < m1 := by omega
      by_cases p3 : f1 = m1
      · have p4 := Q3.out p3
        subst p3 p4
        go_wp2_with fail
        generalize w5.heap.size = s3 at G5 ⊢
        generalize w5.alloc _ = w6 at G5 ⊢
        clear y0 y1 y2 y3 H5 w5 r1 r2 p1
        go_loopw [16, 17] (fun lv fv wr => ∃ (j x : Nat), fv = .int .i64 (j : Int) ∧ lv = .int .i64 (x : Int) ∧ x ≤ 258 ∧ MoreInv B k j x ∧ Sp w0 (Bk s3 25 [.int .i64 (a1 : Int), .int .i64 (a2 : Int), .int .u8 0] :: L) wr) (fun _ fv _ => k + 1 - (intOf fv).toNat)
        case atStart => exact ⟨1, 0, rfl, rfl, by omega, ⟨by omega, by omega, fun f h1 h2 => by omega, .inl rfl⟩, G5.pick 3 [0]⟩
        case round =>
          obtain ⟨j, x, rfl, rfl, hx, hinv, H⟩ := hrel
          have HI := Lib.hid hinv
          have t0 : wr.cell? ⟨s3, 0, none⟩ = some (.int .i64 (a1 : Int)) := H.cell 0 rfl 0
          have t1 : wr.cell? ⟨s3, 1, none⟩ = some (.int .i64 (a2 : Int)) := H.cell 0 rfl 1
          have hj1 : 1 ≤ j := hinv.1
          clear hinv
          by_cases hjk : j ≤ k
          · have k1 : decide ((j : Int) ≤ (k : Int)) = true := decide_eq_true (by omega)
            go_wp2_with fail
            clear t0 t1 k1
            go_loopw [18] (fun nv wz => ∃ i : Nat, nv = .int .i64 (i : Int) ∧ i ≤ 258 ∧ (∀ t, t < i → k + t < B.length ∧ B.getD (k - j + t) 0 = B.getD (k + t) 0) ∧ Sp w0 (Bk s3 25 [.int .i64 (a1 : Int), .int .i64 (a2 : Int), .int .u8 0] :: L) wz) (fun nv _ => 258 - (intOf nv).toNat)
            case atStart => exact ⟨0, rfl, by omega, fun t ht => absurd ht (Nat.not_lt_zero _), H⟩
            case round =>
              obtain ⟨i, rfl, hi, hsame, H2⟩ := hrel
              have HS := Lib.hid hsame
              clear hsame
              obtain ⟨qi, hqi⟩ : ∃ qi, k + i = qi := ⟨_, rfl⟩
              obtain ⟨pi, hpi⟩ : ∃ pi, k - j + i = pi := ⟨_, rfl⟩
              have x1 : (k : Int) + (i : Int) = (qi : Int) := by omega
              have x2 : (k : Int) - (j : Int) + (i : Int) = (pi : Int) := by omega
              have hqi2 : qi ≤ 1000 := by omega
              have hpq : pi ≤ qi := by omega
              have HQI := Lib.hid hqi
              have HPI := Lib.hid hpi
              have hfin : (i = 258 ∨ ¬ (k + i < B.length ∧ B.getD (k - j + i) 0 = B.getD (k + i) 0)) → PM.mlen B (k - j) k = i := fun h => PM.mlen_of B (k - j) k i hi HS.out h
              have HFIN := Lib.hid hfin
              clear hqi hpi hfin
              by_cases hend : qi < n
              · have k2 : (qi : Int) < (n : Int) := by omega
                by_cases h258 : i < 258
                · have k3 : (i : Int) < 258 := by omega
                  have hqB : qi < B.length := by rw [← HL.out]; exact hend
                  have hpB : pi < B.length := by omega
                  have k4 : (pi : Int) < (n : Int) := by omega
                  obtain ⟨ad, rfl⟩ : ∃ ad, A0 = some ad := by
                    obtain ⟨_, _, e, hr, _, _⟩ := HB.out _ _ (H2.pick 1 [])
                    obtain ⟨ad, e2, _⟩ := hr.at8 hqB
                    injection e with e
                    exact ⟨ad, e.trans e2⟩
                  have hcell : ∀ t (h : t < B.length), wr.cell? (ad.add t) = some (.int .u8 ((B[t]).toNat : Int)) := fun t h => by
                    obtain ⟨_, _, e, hr, _, _⟩ := HB.out _ _ (H2.pick 1 [])
                    obtain ⟨ad2, e2, hc⟩ := hr.at8 h
                    injection e with e
                    rw [← e] at e2
                    injection e2 with e2
                    rw [e2]; exact hc
                  obtain ⟨xb, hxb⟩ : ∃ xb, (B[pi]).toNat = xb := ⟨_, rfl⟩
                  obtain ⟨yb, hyb⟩ : ∃ yb, (B[qi]).toNat = yb := ⟨_, rfl⟩
                  have hbe : B.getD (k - j + i) 0 = B.getD (k + i) 0 ↔ xb = yb := by
                    rw [HPI.out, HQI.out, List.getD_eq_getElem?_getD, List.getD_eq_getElem?_getD, List.getElem?_eq_getElem hpB, List.getElem?_eq_getElem hqB, ← hxb, ← hyb]
                    exact UInt8.toNat_inj.symm
                  have z1 := hcell pi hpB
                  have z2 := hcell qi hqB
                  rw [hxb] at z1
                  rw [hyb] at z2
                  have HBE := Lib.hid hbe
                  clear hcell hbe hxb hyb
                  by_cases hxy : xb = yb
                  · have k5 : ((xb : Int) == (yb : Int)) = true := by rw [beq_iff_eq]; omega
                    have HXY := Lib.hid hxy
                    clear hxy
                    go_wp2_with fail
                    go_quiet (fail)
                    go_wp2
                    go_roundw
                    case rel =>
                      refine ⟨i + 1, by go_num, by omega, fun t ht => ?_, H2.drewN _⟩
                      by_cases e : t = i
                      · subst e
                        exact ⟨by rw [HQI.out]; exact hqB, HBE.out.2 HXY.out⟩
                      · exact HS.out t (by omega)
                    case measure => first | (simp [intOf]; omega) | simp [intOf]
                  · have k5 : ((xb : Int) == (yb : Int)) = false := by rw [beq_eq_false_iff_ne]; omega
                    have hm : PM.mlen B (k - j) k = i := HFIN.out (.inr fun h => hxy (HBE.out.1 h.2))
                    have HM := Lib.hid hm
                    clear hm hxy
                    go_wp2_with fail
                    go_quiet (fail)
                    have t0 : ∀ q, (wr.drewN q).cell? ⟨s3, 0, none⟩ = some (.int .i64 (a1 : Int)) := fun q => (H2.drewN q).cell 0 rfl 0
                    have t1 : ∀ q, (wr.drewN q).cell? ⟨s3, 1, none⟩ = some (.int .i64 (a2 : Int)) := fun q => (H2.drewN q).cell 0 rfl 1
                    have hbt : 3 ≤ i → i = a1 → a2 ≤ j := fun h3 he => by
                      have hin := PM.mlen_in (B := B) (p := k - j) (q := k) (by rw [← HL.out]; omega)
                      have hme := HM.out
                      have := (PM.best_all B k 32768 (by omega) (by omega) (by omega) j hj1 hjk (by omega)).2 (by rw [HA1.out]; omega)
                      rw [HA2.out] at this
                      exact this
                    have HBT := Lib.hid hbt
                    clear hbt
                    by_cases hxi : x < i
                    · have k6 : (x : Int) < (i : Int) := by omega
                      have em : max x i = i := by omega
                      by_cases h3 : 3 ≤ i
                      · have k7 : (3 : Int) ≤ (i : Int) := by omega
                        by_cases he : i = a1
                        · have k8 : (i : Int) = (a1 : Int) := by omega
                          have k9 : ¬ (j : Int) < (a2 : Int) := by have := HBT.out h3 he; omega
                          clear h3
                          go_wp2_with fail
                          go_roundw
                          case rel => exact ⟨j + 1, max x i, by go_num, congrArg (Value.int .i64) (by omega), by omega, HI.out.step hjk HM.out, H2.drewN _⟩
                          case measure => first | (simp [intOf]; omega) | simp [intOf]
                        · have k8 : ¬ (i : Int) = (a1 : Int) := by omega
                          clear h3
                          go_wp2_with fail
                          go_roundw
                          case rel => exact ⟨j + 1, max x i, by go_num, congrArg (Value.int .i64) (by omega), by omega, HI.out.step hjk HM.out, H2.drewN _⟩
                          case measure => first | (simp [intOf]; omega) | simp [intOf]
                      · have k7 : ¬ (3 : Int) ≤ (i : Int) := by omega
                        clear h3
                        go_wp2_with fail
                        go_roundw
                        case rel => exact ⟨j + 1, max x i, by go_num, congrArg (Value.int .i64) (by omega), by omega, HI.out.step hjk HM.out, H2.drewN _⟩
                        case measure => first | (simp [intOf]; omega) | simp [intOf]
                    · have k6 : ¬ (x : Int) < (i : Int) := by omega
                      have em : max x i = x := by omega
                      by_cases h3 : 3 ≤ i
                      · have k7 : (3 : Int) ≤ (i : Int) := by omega
                        by_cases he : i = a1
                        · have k8 : (i : Int) = (a1 : Int) := by omega
                          have k9 : ¬ (j : Int) < (a2 : Int) := by have := HBT.out h3 he; omega
                          clear h3
                          go_wp2_with fail
                          go_roundw
                          case rel => exact ⟨j + 1, max x i, by go_num, congrArg (Value.int .i64) (by omega), by omega, HI.out.step hjk HM.out, H2.drewN _⟩
                          case measure => first | (simp [intOf]; omega) | simp [intOf]
                        · have k8 : ¬ (i : Int) = (a1 : Int) := by omega
                          clear h3
                          go_wp2_with fail
                          go_roundw
                          case rel => exact ⟨j + 1, max x i, by go_num, congrArg (Value.int .i64) (by omega), by omega, HI.out.step hjk HM.out, H2.drewN _⟩
                          case measure => first | (simp [intOf]; omega) | simp [intOf]
                      · have k7 : ¬ (3 : Int) ≤ (i : Int) := by omega
                        clear h3
                        go_wp2_with fail
                        go_roundw
                        case rel => exact ⟨j + 1, max x i, by go_num, congrArg (Value.int .i64) (by omega), by omega, HI.out.step hjk HM.out, H2.drewN _⟩
                        case measure => first | (simp [intOf]; omega) | simp [intOf]
                · obtain rfl : i = 258 := by omega
                  have x1 : (k : Int) + 258 = (qi : Int) := by omega
                  have x2 : (k : Int) - (j : Int) + 258 = (pi : Int) := by omega
                  have hm : PM.mlen B (k - j) k = 258 := HFIN.out (.inl rfl)
                  have HM := Lib.hid hm
                  clear hm
                  go_wp2_with fail
                  go_quiet (fail)
                  have t0 : ∀ q, (wr.drewN q).cell? ⟨s3, 0, none⟩ = some (.int .i64 (a1 : Int)) := fun q => (H2.drewN q).cell 0 rfl 0
                  have t1 : ∀ q, (wr.drewN q).cell? ⟨s3, 1, none⟩ = some (.int .i64 (a2 : Int)) := fun q => (H2.drewN q).cell 0 rfl 1
                  have hbt : 3 ≤ 258 → 258 = a1 → a2 ≤ j := fun h3 he => by
                    have hin := PM.mlen_in (B := B) (p := k - j) (q := k) (by rw [← HL.out]; omega)
                    have hme := HM.out
                    have := (PM.best_all B k 32768 (by omega) (by omega) (by omega) j hj1 hjk (by omega)).2 (by rw [HA1.out]; omega)
                    rw [HA2.out] at this
                    exact this
                  have HBT := Lib.hid hbt
                  clear hbt
                  by_cases hxi : x < 258
                  · have k6 : (x : Int) < (258 : Int) := by omega
                    have em : max x 258 = 258 := by omega
                    by_cases h3 : 3 ≤ 258
                    · have k7 : (3 : Int) ≤ (258 : Int) := by omega
                      by_cases he : 258 = a1
                      · have k8 : (258 : Int) = (a1 : Int) := by omega
                        have k9 : ¬ (j : Int) < (a2 : Int) := by have := HBT.out h3 he; omega
                        clear h3
                        go_wp2_with fail
                        go_roundw
                        case rel => exact ⟨j + 1, max x 258, by go_num, congrArg (Value.int .i64) (by omega), by omega, HI.out.step hjk HM.out, H2.drewN _⟩
                        case measure => first | (simp [intOf]; omega) | simp [intOf]
                      · have k8 : ¬ (258 : Int) = (a1 : Int) := by omega
                        clear h3
                        go_wp2_with fail
                        go_roundw
                        case rel => exact ⟨j + 1, max x 258, by go_num, congrArg (Value.int .i64) (by omega), by omega, HI.out.step hjk HM.out, H2.drewN _⟩
                        case measure => first | (simp [intOf]; omega) | simp [intOf]
                    · have k7 : ¬ (3 : Int) ≤ (258 : Int) := by omega
                      clear h3
                      go_wp2_with fail
                      go_roundw
                      case rel => exact ⟨j + 1, max x 258, by go_num, congrArg (Value.int .i64) (by omega), by omega, HI.out.step hjk HM.out, H2.drewN _⟩
                      case measure => first | (simp [intOf]; omega) | simp [intOf]
                  · have k6 : ¬ (x : Int) < (258 : Int) := by omega
                    have em : max x 258 = x := by omega
                    by_cases h3 : 3 ≤ 258
                    · have k7 : (3 : Int) ≤ (258 : Int) := by omega
                      by_cases he : 258 = a1
                      · have k8 : (258 : Int) = (a1 : Int) := by omega
                        have k9 : ¬ (j : Int) < (a2 : Int) := by have := HBT.out h3 he; omega
                        clear h3
                        go_wp2_with fail
                        go_roundw
                        case rel => exact ⟨j + 1, max x 258, by go_num, congrArg (Value.int .i64) (by omega), by omega, HI.out.step hjk HM.out, H2.drewN _⟩
                        case measure => first | (simp [intOf]; omega) | simp [intOf]
                      · have k8 : ¬ (258 : Int) = (a1 : Int) := by omega
                        clear h3
                        go_wp2_with fail
                        go_roundw
                        case rel => exact ⟨j + 1, max x 258, by go_num, congrArg (Value.int .i64) (by omega), by omega, HI.out.step hjk HM.out, H2.drewN _⟩
                        case measure => first | (simp [intOf]; omega) | simp [intOf]
                    · have k7 : ¬ (3 : Int) ≤ (258 : Int) := by omega
                      clear h3
                      go_wp2_with fail
                      go_roundw
                      case rel => exact ⟨j + 1, max x 258, by go_num, congrArg (Value.int .i64) (by omega), by omega, HI.out.step hjk HM.out, H2.drewN _⟩
                      case measure => first | (simp [intOf]; omega) | simp [intOf]
              · have k2 : ¬ (qi : Int) < (n : Int) := by omega
                have hm : PM.mlen B (k - j) k = i := HFIN.out (.inr fun h => hend (by rw [← HQI.out, HL.out]; exact h.1))
                have HM := Lib.hid hm
                clear hm
                go_wp2_with fail
                go_quiet (fail)
                have t0 : ∀ q, (wr.drewN q).cell? ⟨s3, 0, none⟩ = some (.int .i64 (a1 : Int)) := fun q => (H2.drewN q).cell 0 rfl 0
                have t1 : ∀ q, (wr.drewN q).cell? ⟨s3, 1, none⟩ = some (.int .i64 (a2 : Int)) := fun q => (H2.drewN q).cell 0 rfl 1
                have hbt : 3 ≤ i → i = a1 → a2 ≤ j := fun h3 he => by
                  have hin := PM.mlen_in (B := B) (p := k - j) (q := k) (by rw [← HL.out]; omega)
                  have hme := HM.out
                  have := (PM.best_all B k 32768 (by omega) (by omega) (by omega) j hj1 hjk (by omega)).2 (by rw [HA1.out]; omega)
                  rw [HA2.out] at this
                  exact this
                have HBT := Lib.hid hbt
                clear hbt
                by_cases hxi : x < i
                · have k6 : (x : Int) < (i : Int) := by omega
                  have em : max x i = i := by omega
                  by_cases h3 : 3 ≤ i
                  · have k7 : (3 : Int) ≤ (i : Int) := by omega
                    by_cases he : i = a1
                    · have k8 : (i : Int) = (a1 : Int) := by omega
                      have k9 : ¬ (j : Int) < (a2 : Int) := by have := HBT.out h3 he; omega
                      clear h3
                      go_wp2_with fail
                      go_roundw
                      case rel => exact ⟨j + 1, max x i, by go_num, congrArg (Value.int .i64) (by omega), by omega, HI.out.step hjk HM.out, H2.drewN _⟩
                      case measure => first | (simp [intOf]; omega) | simp [intOf]
                    · have k8 : ¬ (i : Int) = (a1 : Int) := by omega
                      clear h3
                      go_wp2_with fail
                      go_roundw
                      case rel => exact ⟨j + 1, max x i, by go_num, congrArg (Value.int .i64) (by omega), by omega, HI.out.step hjk HM.out, H2.drewN _⟩
                      case measure => first | (simp [intOf]; omega) | simp [intOf]
                  · have k7 : ¬ (3 : Int) ≤ (i : Int) := by omega
                    clear h3
                    go_wp2_with fail
                    go_roundw
                    case rel => exact ⟨j + 1, max x i, by go_num, congrArg (Value.int .i64) (by omega), by omega, HI.out.step hjk HM.out, H2.drewN _⟩
                    case measure => first | (simp [intOf]; omega) | simp [intOf]
                · have k6 : ¬ (x : Int) < (i : Int) := by omega
                  have em : max x i = x := by omega
                  by_cases h3 : 3 ≤ i
                  · have k7 : (3 : Int) ≤ (i : Int) := by omega
                    by_cases he : i = a1
                    · have k8 : (i : Int) = (a1 : Int) := by omega
                      have k9 : ¬ (j : Int) < (a2 : Int) := by have := HBT.out h3 he; omega
                      clear h3
                      go_wp2_with fail
                      go_roundw
                      case rel => exact ⟨j + 1, max x i, by go_num, congrArg (Value.int .i64) (by omega), by omega, HI.out.step hjk HM.out, H2.drewN _⟩
                      case measure => first | (simp [intOf]; omega) | simp [intOf]
                    · have k8 : ¬ (i : Int) = (a1 : Int) := by omega
                      clear h3
                      go_wp2_with fail
                      go_roundw
                      case rel => exact ⟨j + 1, max x i, by go_num, congrArg (Value.int .i64) (by omega), by omega, HI.out.step hjk HM.out, H2.drewN _⟩
                      case measure => first | (simp [intOf]; omega) | simp [intOf]
                  · have k7 : ¬ (3 : Int) ≤ (i : Int) := by omega
                    clear h3
                    go_wp2_with fail
                    go_roundw
                    case rel => exact ⟨j + 1, max x i, by go_num, congrArg (Value.int .i64) (by omega), by omega, HI.out.step hjk HM.out, H2.drewN _⟩
                    case measure => first | (simp [intOf]; omega) | simp [intOf]
          · have k1 : decide ((j : Int) ≤ (k : Int)) = false := decide_eq_false (by omega)
            obtain rfl : j = k + 1 := by have := HI.out.2.1; omega
            obtain ⟨u1, u2⟩ := HI.out.end_ (by rw [← HL.out]; exact hkn) (by omega)
            rw [HA1.out] at u1 u2
            by_cases pa : 0 < a1
            · obtain rfl := u2 pa
              have u3 := u1.2 pa
              have k2 : (3 : Int) ≤ (a1 : Int) := by omega
              clear u1 u2
              go_wp2_with fail
              refine (wakes_ok H).mono ?_
              rintro _ w9 ⟨rfl, H9⟩
              go_wp2
              go_ret
              exact ⟨rfl, H9.tail⟩
            · have u3 : ¬ 3 ≤ x := fun h => pa (u1.1 h)
              have k2 : ¬ (3 : Int) ≤ (x : Int) := by omega
              clear u1 u2
              try (exfalso; omega)
              all_goals (
                go_wp2_with fail
                refine (wakes_ok H).mono ?_
                rintro _ w9 ⟨rfl, H9⟩
                go_wp2
                go_ret
                exact ⟨rfl, H9.tail⟩)
      · have p5 : ¬ (f1 : Int) = m1 := by omega
        go_wp2_with fail
        generalize w5.heap.size = s3 at G5 ⊢
        generalize w5.alloc _ = w6 at G5 ⊢
        clear y0 y1 y2 y3 H5 w5 r1 r2 p1
        go_loopw [16, 17] (fun lv fv wr => ∃ (j x : Nat), fv = .int .i64 (j : Int) ∧ lv = .int .i64 (x : Int) ∧ x ≤ 258 ∧ MoreInv B k j x ∧ Sp w0 (Bk s3 25 [.int .i64 (a1 : Int), .int .i64 (a2 : Int), .int .u8 0] :: L) wr) (fun _ fv _ => k + 1 - (intOf fv).toNat)
        case atStart => exact ⟨1, 0, rfl, rfl, by omega, ⟨by omega, by omega, fun f h1 h2 => by omega, .inl rfl⟩, G5.pick 3 [0]⟩
        case round =>
          obtain ⟨j, x, rfl, rfl, hx, hinv, H⟩ := hrel
          have HI := Lib.hid hinv
          have t0 : wr.cell? ⟨s3, 0, none⟩ = some (.int .i64 (a1 : Int)) := H.cell 0 rfl 0
          have t1 : wr.cell? ⟨s3, 1, none⟩ = some (.int .i64 (a2 : Int)) := H.cell 0 rfl 1
          have hj1 : 1 ≤ j := hinv.1
          clear hinv
          by_cases hjk : j ≤ k
          · have k1 : decide ((j : Int) ≤ (k : Int)) = true := decide_eq_true (by omega)
            go_wp2_with fail
            clear t0 t1 k1
            go_loopw [18] (fun nv wz => ∃ i : Nat, nv = .int .i64 (i : Int) ∧ i ≤ 258 ∧ (∀ t, t < i → k + t < B.length ∧ B.getD (k - j + t) 0 = B.getD (k + t) 0) ∧ Sp w0 (Bk s3 25 [.int .i64 (a1 : Int), .int .i64 (a2 : Int), .int .u8 0] :: L) wz) (fun nv _ => 258 - (intOf nv).toNat)
            case atStart => exact ⟨0, rfl, by omega, fun t ht => absurd ht (Nat.not_lt_zero _), H⟩
            case round =>
              obtain ⟨i, rfl, hi, hsame, H2⟩ := hrel
              have HS := Lib.hid hsame
              clear hsame
              obtain ⟨qi, hqi⟩ : ∃ qi, k + i = qi := ⟨_, rfl⟩
              obtain ⟨pi, hpi⟩ : ∃ pi, k - j + i = pi := ⟨_, rfl⟩
              have x1 : (k : Int) + (i : Int) = (qi : Int) := by omega
              have x2 : (k : Int) - (j : Int) + (i : Int) = (pi : Int) := by omega
              have hqi2 : qi ≤ 1000 := by omega
              have hpq : pi ≤ qi := by omega
              have HQI := Lib.hid hqi
              have HPI := Lib.hid hpi
              have hfin : (i = 258 ∨ ¬ (k + i < B.length ∧ B.getD (k - j + i) 0 = B.getD (k + i) 0)) → PM.mlen B (k - j) k = i := fun h => PM.mlen_of B (k - j) k i hi HS.out h
              have HFIN := Lib.hid hfin
              clear hqi hpi hfin
              by_cases hend : qi < n
              · have k2 : (qi : Int) < (n : Int) := by omega
                by_cases h258 : i < 258
                · have k3 : (i : Int) < 258 := by omega
                  have hqB : qi < B.length := by rw [← HL.out]; exact hend
                  have hpB : pi < B.length := by omega
                  have k4 : (pi : Int) < (n : Int) := by omega
                  obtain ⟨ad, rfl⟩ : ∃ ad, A0 = some ad := by
                    obtain ⟨_, _, e, hr, _, _⟩ := HB.out _ _ (H2.pick 1 [])
                    obtain ⟨ad, e2, _⟩ := hr.at8 hqB
                    injection e with e
                    exact ⟨ad, e.trans e2⟩
                  have hcell : ∀ t (h : t < B.length), wr.cell? (ad.add t) = some (.int .u8 ((B[t]).toNat : Int)) := fun t h => by
                    obtain ⟨_, _, e, hr, _, _⟩ := HB.out _ _ (H2.pick 1 [])
                    obtain ⟨ad2, e2, hc⟩ := hr.at8 h
                    injection e with e
                    rw [← e] at e2
                    injection e2 with e2
                    rw [e2]; exact hc
                  obtain ⟨xb, hxb⟩ : ∃ xb, (B[pi]).toNat = xb := ⟨_, rfl⟩
                  obtain ⟨yb, hyb⟩ : ∃ yb, (B[qi]).toNat = yb := ⟨_, rfl⟩
                  have hbe : B.getD (k - j + i) 0 = B.getD (k + i) 0 ↔ xb = yb := by
                    rw [HPI.out, HQI.out, List.getD_eq_getElem?_getD, List.getD_eq_getElem?_getD, List.getElem?_eq_getElem hpB, List.getElem?_eq_getElem hqB, ← hxb, ← hyb]
                    exact UInt8.toNat_inj.symm
                  have z1 := hcell pi hpB
                  have z2 := hcell qi hqB
                  rw [hxb] at z1
                  rw [hyb] at z2
                  have HBE := Lib.hid hbe
                  clear hcell hbe hxb hyb
                  by_cases hxy : xb = yb
                  · have k5 : ((xb : Int) == (yb : Int)) = true := by rw [beq_iff_eq]; omega
                    have HXY := Lib.hid hxy
                    clear hxy
                    go_wp2_with fail
                    go_quiet (fail)
                    go_wp2
                    go_roundw
                    case rel =>
                      refine ⟨i + 1, by go_num, by omega, fun t ht => ?_, H2.drewN _⟩
                      by_cases e : t = i
                      · subst e
                        exact ⟨by rw [HQI.out]; exact hqB, HBE.out.2 HXY.out⟩
                      · exact HS.out t (by omega)
                    case measure => first | (simp [intOf]; omega) | simp [intOf]
                  · have k5 : ((xb : Int) == (yb : Int)) = false := by rw [beq_eq_false_iff_ne]; omega
                    have hm : PM.mlen B (k - j) k = i := HFIN.out (.inr fun h => hxy (HBE.out.1 h.2))
                    have HM := Lib.hid hm
                    clear hm hxy
                    go_wp2_with fail
                    go_quiet (fail)
                    have t0 : ∀ q, (wr.drewN q).cell? ⟨s3, 0, none⟩ = some (.int .i64 (a1 : Int)) := fun q => (H2.drewN q).cell 0 rfl 0
                    have t1 : ∀ q, (wr.drewN q).cell? ⟨s3, 1, none⟩ = some (.int .i64 (a2 : Int)) := fun q => (H2.drewN q).cell 0 rfl 1
                    have hbt : 3 ≤ i → i = a1 → a2 ≤ j := fun h3 he => by
                      have hin := PM.mlen_in (B := B) (p := k - j) (q := k) (by rw [← HL.out]; omega)
                      have hme := HM.out
                      have := (PM.best_all B k 32768 (by omega) (by omega) (by omega) j hj1 hjk (by omega)).2 (by rw [HA1.out]; omega)
                      rw [HA2.out] at this
                      exact this
                    have HBT := Lib.hid hbt
                    clear hbt
                    by_cases hxi : x < i
                    · have k6 : (x : Int) < (i : Int) := by omega
                      have em : max x i = i := by omega
                      by_cases h3 : 3 ≤ i
                      · have k7 : (3 : Int) ≤ (i : Int) := by omega
                        by_cases he : i = a1
                        · have k8 : (i : Int) = (a1 : Int) := by omega
                          have k9 : ¬ (j : Int) < (a2 : Int) := by have := HBT.out h3 he; omega
                          clear h3
                          go_wp2_with fail
                          go_roundw
                          case rel => exact ⟨j + 1, max x i, by go_num, congrArg (Value.int .i64) (by omega), by omega, HI.out.step hjk HM.out, H2.drewN _⟩
                          case measure => first | (simp [intOf]; omega) | simp [intOf]
                        · have k8 : ¬ (i : Int) = (a1 : Int) := by omega
                          clear h3
                          go_wp2_with fail
                          go_roundw
                          case rel => exact ⟨j + 1, max x i, by go_num, congrArg (Value.int .i64) (by omega), by omega, HI.out.step hjk HM.out, H2.drewN _⟩
                          case measure => first | (simp [intOf]; omega) | simp [intOf]
                      · have k7 : ¬ (3 : Int) ≤ (i : Int) := by omega
                        clear h3
                        go_wp2_with fail
                        go_roundw
                        case rel => exact ⟨j + 1, max x i, by go_num, congrArg (Value.int .i64) (by omega), by omega, HI.out.step hjk HM.out, H2.drewN _⟩
                        case measure => first | (simp [intOf]; omega) | simp [intOf]
                    · have k6 : ¬ (x : Int) < (i : Int) := by omega
                      have em : max x i = x := by omega
                      by_cases h3 : 3 ≤ i
                      · have k7 : (3 : Int) ≤ (i : Int) := by omega
                        by_cases he : i = a1
                        · have k8 : (i : Int) = (a1 : Int) := by omega
                          have k9 : ¬ (j : Int) < (a2 : Int) := by have := HBT.out h3 he; omega
                          clear h3
                          go_wp2_with fail
                          go_roundw
                          case rel => exact ⟨j + 1, max x i, by go_num, congrArg (Value.int .i64) (by omega), by omega, HI.out.step hjk HM.out, H2.drewN _⟩
                          case measure => first | (simp [intOf]; omega) | simp [intOf]
                        · have k8 : ¬ (i : Int) = (a1 : Int) := by omega
                          clear h3
                          go_wp2_with fail
                          go_roundw
                          case rel => exact ⟨j + 1, max x i, by go_num, congrArg (Value.int .i64) (by omega), by omega, HI.out.step hjk HM.out, H2.drewN _⟩
                          case measure => first | (simp [intOf]; omega) | simp [intOf]
                      · have k7 : ¬ (3 : Int) ≤ (i : Int) := by omega
                        clear h3
                        go_wp2_with fail
                        go_roundw
                        case rel => exact ⟨j + 1, max x i, by go_num, congrArg (Value.int .i64) (by omega), by omega, HI.out.step hjk HM.out, H2.drewN _⟩
                        case measure => first | (simp [intOf]; omega) | simp [intOf]
                · obtain rfl : i = 258 := by omega
                  have x1 : (k : Int) + 258 = (qi : Int) := by omega
                  have x2 : (k : Int) - (j : Int) + 258 = (pi : Int) := by omega
                  have hm : PM.mlen B (k - j) k = 258 := HFIN.out (.inl rfl)
                  have HM := Lib.hid hm
                  clear hm
                  go_wp2_with fail
                  go_quiet (fail)
                  have t0 : ∀ q, (wr.drewN q).cell? ⟨s3, 0, none⟩ = some (.int .i64 (a1 : Int)) := fun q => (H2.drewN q).cell 0 rfl 0
                  have t1 : ∀ q, (wr.drewN q).cell? ⟨s3, 1, none⟩ = some (.int .i64 (a2 : Int)) := fun q => (H2.drewN q).cell 0 rfl 1
                  have hbt : 3 ≤ 258 → 258 = a1 → a2 ≤ j := fun h3 he => by
                    have hin := PM.mlen_in (B := B) (p := k - j) (q := k) (by rw [← HL.out]; omega)
                    have hme := HM.out
                    have := (PM.best_all B k 32768 (by omega) (by omega) (by omega) j hj1 hjk (by omega)).2 (by rw [HA1.out]; omega)
                    rw [HA2.out] at this
                    exact this
                  have HBT := Lib.hid hbt
                  clear hbt
                  by_cases hxi : x < 258
                  · have k6 : (x : Int) < (258 : Int) := by omega
                    have em : max x 258 = 258 := by omega
                    by_cases h3 : 3 ≤ 258
                    · have k7 : (3 : Int) ≤ (258 : Int) := by omega
                      by_cases he : 258 = a1
                      · have k8 : (258 : Int) = (a1 : Int) := by omega
                        have k9 : ¬ (j : Int) < (a2 : Int) := by have := HBT.out h3 he; omega
                        clear h3
                        go_wp2_with fail
                        go_roundw
                        case rel => exact ⟨j + 1, max x 258, by go_num, congrArg (Value.int .i64) (by omega), by omega, HI.out.step hjk HM.out, H2.drewN _⟩
                        case measure => first | (simp [intOf]; omega) | simp [intOf]
                      · have k8 : ¬ (258 : Int) = (a1 : Int) := by omega
                        clear h3
                        go_wp2_with fail
                        go_roundw
                        case rel => exact ⟨j + 1, max x 258, by go_num, congrArg (Value.int .i64) (by omega), by omega, HI.out.step hjk HM.out, H2.drewN _⟩
                        case measure => first | (simp [intOf]; omega) | simp [intOf]
                    · have k7 : ¬ (3 : Int) ≤ (258 : Int) := by omega
                      clear h3
                      go_wp2_with fail
                      go_roundw
                      case rel => exact ⟨j + 1, max x 258, by go_num, congrArg (Value.int .i64) (by omega), by omega, HI.out.step hjk HM.out, H2.drewN _⟩
                      case measure => first | (simp [intOf]; omega) | simp [intOf]
                  · have k6 : ¬ (x : Int) < (258 : Int) := by omega
                    have em : max x 258 = x := by omega
                    by_cases h3 : 3 ≤ 258
                    · have k7 : (3 : Int) ≤ (258 : Int) := by omega
                      by_cases he : 258 = a1
                      · have k8 : (258 : Int) = (a1 : Int) := by omega
                        have k9 : ¬ (j : Int) < (a2 : Int) := by have := HBT.out h3 he; omega
                        clear h3
                        go_wp2_with fail
                        go_roundw
                        case rel => exact ⟨j + 1, max x 258, by go_num, congrArg (Value.int .i64) (by omega), by omega, HI.out.step hjk HM.out, H2.drewN _⟩
                        case measure => first | (simp [intOf]; omega) | simp [intOf]
                      · have k8 : ¬ (258 : Int) = (a1 : Int) := by omega
                        clear h3
                        go_wp2_with fail
                        go_roundw
                        case rel => exact ⟨j + 1, max x 258, by go_num, congrArg (Value.int .i64) (by omega), by omega, HI.out.step hjk HM.out, H2.drewN _⟩
                        case measure => first | (simp [intOf]; omega) | simp [intOf]
                    · have k7 : ¬ (3 : Int) ≤ (258 : Int) := by omega
                      clear h3
                      go_wp2_with fail
                      go_roundw
                      case rel => exact ⟨j + 1, max x 258, by go_num, congrArg (Value.int .i64) (by omega), by omega, HI.out.step hjk HM.out, H2.drewN _⟩
                      case measure => first | (simp [intOf]; omega) | simp [intOf]
              · have k2 : ¬ (qi : Int) < (n : Int) := by omega
                have hm : PM.mlen B (k - j) k = i := HFIN.out (.inr fun h => hend (by rw [← HQI.out, HL.out]; exact h.1))
                have HM := Lib.hid hm
                clear hm
                go_wp2_with fail
                go_quiet (fail)
                have t0 : ∀ q, (wr.drewN q).cell? ⟨s3, 0, none⟩ = some (.int .i64 (a1 : Int)) := fun q => (H2.drewN q).cell 0 rfl 0
                have t1 : ∀ q, (wr.drewN q).cell? ⟨s3, 1, none⟩ = some (.int .i64 (a2 : Int)) := fun q => (H2.drewN q).cell 0 rfl 1
                have hbt : 3 ≤ i → i = a1 → a2 ≤ j := fun h3 he => by
                  have hin := PM.mlen_in (B := B) (p := k - j) (q := k) (by rw [← HL.out]; omega)
                  have hme := HM.out
                  have := (PM.best_all B k 32768 (by omega) (by omega) (by omega) j hj1 hjk (by omega)).2 (by rw [HA1.out]; omega)
                  rw [HA2.out] at this
                  exact this
                have HBT := Lib.hid hbt
                clear hbt
                by_cases hxi : x < i
                · have k6 : (x : Int) < (i : Int) := by omega
                  have em : max x i = i := by omega
                  by_cases h3 : 3 ≤ i
                  · have k7 : (3 : Int) ≤ (i : Int) := by omega
                    by_cases he : i = a1
                    · have k8 : (i : Int) = (a1 : Int) := by omega
                      have k9 : ¬ (j : Int) < (a2 : Int) := by have := HBT.out h3 he; omega
                      clear h3
                      go_wp2_with fail
                      go_roundw
                      case rel => exact ⟨j + 1, max x i, by go_num, congrArg (Value.int .i64) (by omega), by omega, HI.out.step hjk HM.out, H2.drewN _⟩
                      case measure => first | (simp [intOf]; omega) | simp [intOf]
                    · have k8 : ¬ (i : Int) = (a1 : Int) := by omega
                      clear h3
                      go_wp2_with fail
                      go_roundw
                      case rel => exact ⟨j + 1, max x i, by go_num, congrArg (Value.int .i64) (by omega), by omega, HI.out.step hjk HM.out, H2.drewN _⟩
                      case measure => first | (simp [intOf]; omega) | simp [intOf]
                  · have k7 : ¬ (3 : Int) ≤ (i : Int) := by omega
                    clear h3
                    go_wp2_with fail
                    go_roundw
                    case rel => exact ⟨j + 1, max x i, by go_num, congrArg (Value.int .i64) (by omega), by omega, HI.out.step hjk HM.out, H2.drewN _⟩
                    case measure => first | (simp [intOf]; omega) | simp [intOf]
                · have k6 : ¬ (x : Int) < (i : Int) := by omega
                  have em : max x i = x := by omega
                  by_cases h3 : 3 ≤ i
                  · have k7 : (3 : Int) ≤ (i : Int) := by omega
                    by_cases he : i = a1
                    · have k8 : (i : Int) = (a1 : Int) := by omega
                      have k9 : ¬ (j : Int) < (a2 : Int) := by have := HBT.out h3 he; omega
                      clear h3
                      go_wp2_with fail
                      go_roundw
                      case rel => exact ⟨j + 1, max x i, by go_num, congrArg (Value.int .i64) (by omega), by omega, HI.out.step hjk HM.out, H2.drewN _⟩
                      case measure => first | (simp [intOf]; omega) | simp [intOf]
                    · have k8 : ¬ (i : Int) = (a1 : Int) := by omega
                      clear h3
                      go_wp2_with fail
                      go_roundw
                      case rel => exact ⟨j + 1, max x i, by go_num, congrArg (Value.int .i64) (by omega), by omega, HI.out.step hjk HM.out, H2.drewN _⟩
                      case measure => first | (simp [intOf]; omega) | simp [intOf]
                  · have k7 : ¬ (3 : Int) ≤ (i : Int) := by omega
                    clear h3
                    go_wp2_with fail
                    go_roundw
                    case rel => exact ⟨j + 1, max x i, by go_num, congrArg (Value.int .i64) (by omega), by omega, HI.out.step hjk HM.out, H2.drewN _⟩
                    case measure => first | (simp [intOf]; omega) | simp [intOf]
          · have k1 : decide ((j : Int) ≤ (k : Int)) = false := decide_eq_false (by omega)
            obtain rfl : j = k + 1 := by have := HI.out.2.1; omega
            obtain ⟨u1, u2⟩ := HI.out.end_ (by rw [← HL.out]; exact hkn) (by omega)
            rw [HA1.out] at u1 u2
            by_cases pa : 0 < a1
            · obtain rfl := u2 pa
              have u3 := u1.2 pa
              have k2 : (3 : Int) ≤ (a1 : Int) := by omega
              clear u1 u2
              go_wp2_with fail
              refine (wakes_ok H).mono ?_
              rintro _ w9 ⟨rfl, H9⟩
              go_wp2
              go_ret
              exact ⟨rfl, H9.tail⟩
            · have u3 : ¬ 3 ≤ x := fun h => pa (u1.1 h)
              have k2 : ¬ (3 : Int) ≤ (x : Int) := by omega
              clear u1 u2
              try (exfalso; omega)
              all_goals (
                go_wp2_with fail
                refine (wakes_ok H).mono ?_
                rintro _ w9 ⟨rfl, H9⟩
                go_wp2
                go_ret
                exact ⟨rfl, H9.tail⟩)
    · by_cases p3 : f1 = m1
      · have p4 := Q3.out p3
        subst p3 p4
        go_wp2_with fail
        generalize w5.heap.size = s3 at G5 ⊢
        generalize w5.alloc _ = w6 at G5 ⊢
        clear y0 y1 y2 y3 H5 w5 r1 r2 p1
        go_loopw [16, 17] (fun lv fv wr => ∃ (j x : Nat), fv = .int .i64 (j : Int) ∧ lv = .int .i64 (x : Int) ∧ x ≤ 258 ∧ MoreInv B k j x ∧ Sp w0 (Bk s3 25 [.int .i64 (a1 : Int), .int .i64 (a2 : Int), .int .u8 0] :: L) wr) (fun _ fv _ => k + 1 - (intOf fv).toNat)
        case atStart => exact ⟨1, 0, rfl, rfl, by omega, ⟨by omega, by omega, fun f h1 h2 => by omega, .inl rfl⟩, G5.pick 3 [0]⟩
        case round =>
          obtain ⟨j, x, rfl, rfl, hx, hinv, H⟩ := hrel
          have HI := Lib.hid hinv
          have t0 : wr.cell? ⟨s3, 0, none⟩ = some (.int .i64 (a1 : Int)) := H.cell 0 rfl 0
          have t1 : wr.cell? ⟨s3, 1, none⟩ = some (.int .i64 (a2 : Int)) := H.cell 0 rfl 1
          have hj1 : 1 ≤ j := hinv.1
          clear hinv
          by_cases hjk : j ≤ k
          · have k1 : decide ((j : Int) ≤ (k : Int)) = true := decide_eq_true (by omega)
            go_wp2_with fail
            clear t0 t1 k1
            go_loopw [18] (fun nv wz => ∃ i : Nat, nv = .int .i64 (i : Int) ∧ i ≤ 258 ∧ (∀ t, t < i → k + t < B.length ∧ B.getD (k - j + t) 0 = B.getD (k + t) 0) ∧ Sp w0 (Bk s3 25 [.int .i64 (a1 : Int), .int .i64 (a2 : Int), .int .u8 0] :: L) wz) (fun nv _ => 258 - (intOf nv).toNat)
            case atStart => exact ⟨0, rfl, by omega, fun t ht => absurd ht (Nat.not_lt_zero _), H⟩
            case round =>
              obtain ⟨i, rfl, hi, hsame, H2⟩ := hrel
              have HS := Lib.hid hsame
              clear hsame
              obtain ⟨qi, hqi⟩ : ∃ qi, k + i = qi := ⟨_, rfl⟩
              obtain ⟨pi, hpi⟩ : ∃ pi, k - j + i = pi := ⟨_, rfl⟩
              have x1 : (k : Int) + (i : Int) = (qi : Int) := by omega
              have x2 : (k : Int) - (j : Int) + (i : Int) = (pi : Int) := by omega
              have hqi2 : qi ≤ 1000 := by omega
              have hpq : pi ≤ qi := by omega
              have HQI := Lib.hid hqi
              have HPI := Lib.hid hpi
              have hfin : (i = 258 ∨ ¬ (k + i < B.length ∧ B.getD (k - j + i) 0 = B.getD (k + i) 0)) → PM.mlen B (k - j) k = i := fun h => PM.mlen_of B (k - j) k i hi HS.out h
              have HFIN := Lib.hid hfin
              clear hqi hpi hfin
              by_cases hend : qi < n
              · have k2 : (qi : Int) < (n : Int) := by omega
                by_cases h258 : i < 258
                · have k3 : (i : Int) < 258 := by omega
                  have hqB : qi < B.length := by rw [← HL.out]; exact hend
                  have hpB : pi < B.length := by omega
                  have k4 : (pi : Int) < (n : Int) := by omega
                  obtain ⟨ad, rfl⟩ : ∃ ad, A0 = some ad := by
                    obtain ⟨_, _, e, hr, _, _⟩ := HB.out _ _ (H2.pick 1 [])
                    obtain ⟨ad, e2, _⟩ := hr.at8 hqB
                    injection e with e
                    exact ⟨ad, e.trans e2⟩
                  have hcell : ∀ t (h : t < B.length), wr.cell? (ad.add t) = some (.int .u8 ((B[t]).toNat : Int)) := fun t h => by
                    obtain ⟨_, _, e, hr, _, _⟩ := HB.out _ _ (H2.pick 1 [])
                    obtain ⟨ad2, e2, hc⟩ := hr.at8 h
                    injection e with e
                    rw [← e] at e2
                    injection e2 with e2
                    rw [e2]; exact hc
                  obtain ⟨xb, hxb⟩ : ∃ xb, (B[pi]).toNat = xb := ⟨_, rfl⟩
                  obtain ⟨yb, hyb⟩ : ∃ yb, (B[qi]).toNat = yb := ⟨_, rfl⟩
                  have hbe : B.getD (k - j + i) 0 = B.getD (k + i) 0 ↔ xb = yb := by
                    rw [HPI.out, HQI.out, List.getD_eq_getElem?_getD, List.getD_eq_getElem?_getD, List.getElem?_eq_getElem hpB, List.getElem?_eq_getElem hqB, ← hxb, ← hyb]
                    exact UInt8.toNat_inj.symm
                  have z1 := hcell pi hpB
                  have z2 := hcell qi hqB
                  rw [hxb] at z1
                  rw [hyb] at z2
                  have HBE := Lib.hid hbe
                  clear hcell hbe hxb hyb
                  by_cases hxy : xb = yb
                  · have k5 : ((xb : Int) == (yb : Int)) = true := by rw [beq_iff_eq]; omega
                    have HXY := Lib.hid hxy
                    clear hxy
                    go_wp2_with fail
                    go_quiet (fail)
                    go_wp2
                    go_roundw
                    case rel =>
                      refine ⟨i + 1, by go_num, by omega, fun t ht => ?_, H2.drewN _⟩
                      by_cases e : t = i
                      · subst e
                        exact ⟨by rw [HQI.out]; exact hqB, HBE.out.2 HXY.out⟩
                      · exact HS.out t (by omega)
                    case measure => first | (simp [intOf]; omega) | simp [intOf]
                  · have k5 : ((xb : Int) == (yb : Int)) = false := by rw [beq_eq_false_iff_ne]; omega
                    have hm : PM.mlen B (k - j) k = i := HFIN.out (.inr fun h => hxy (HBE.out.1 h.2))
                    have HM := Lib.hid hm
                    clear hm hxy
                    go_wp2_with fail
                    go_quiet (fail)
                    have t0 : ∀ q, (wr.drewN q).cell? ⟨s3, 0, none⟩ = some (.int .i64 (a1 : Int)) := fun q => (H2.drewN q).cell 0 rfl 0
                    have t1 : ∀ q, (wr.drewN q).cell? ⟨s3, 1, none⟩ = some (.int .i64 (a2 : Int)) := fun q => (H2.drewN q).cell 0 rfl 1
                    have hbt : 3 ≤ i → i = a1 → a2 ≤ j := fun h3 he => by
                      have hin := PM.mlen_in (B := B) (p := k - j) (q := k) (by rw [← HL.out]; omega)
                      have hme := HM.out
                      have := (PM.best_all B k 32768 (by omega) (by omega) (by omega) j hj1 hjk (by omega)).2 (by rw [HA1.out]; omega)
                      rw [HA2.out] at this
                      exact this
                    have HBT := Lib.hid hbt
                    clear hbt
                    by_cases hxi : x < i
                    · have k6 : (x : Int) < (i : Int) := by omega
                      have em : max x i = i := by omega
                      by_cases h3 : 3 ≤ i
                      · have k7 : (3 : Int) ≤ (i : Int) := by omega
                        by_cases he : i = a1
                        · have k8 : (i : Int) = (a1 : Int) := by omega
                          have k9 : ¬ (j : Int) < (a2 : Int) := by have := HBT.out h3 he; omega
                          clear h3
                          go_wp2_with fail
                          go_roundw
                          case rel => exact ⟨j + 1, max x i, by go_num, congrArg (Value.int .i64) (by omega), by omega, HI.out.step hjk HM.out, H2.drewN _⟩
                          case measure => first | (simp [intOf]; omega) | simp [intOf]
                        · have k8 : ¬ (i : Int) = (a1 : Int) := by omega
                          clear h3
                          go_wp2_with fail
                          go_roundw
                          case rel => exact ⟨j + 1, max x i, by go_num, congrArg (Value.int .i64) (by omega), by omega, HI.out.step hjk HM.out, H2.drewN _⟩
                          case measure => first | (simp [intOf]; omega) | simp [intOf]
                      · have k7 : ¬ (3 : Int) ≤ (i : Int) := by omega
                        clear h3
                        go_wp2_with fail
                        go_roundw
                        case rel => exact ⟨j + 1, max x i, by go_num, congrArg (Value.int .i64) (by omega), by omega, HI.out.step hjk HM.out, H2.drewN _⟩
                        case measure => first | (simp [intOf]; omega) | simp [intOf]
                    · have k6 : ¬ (x : Int) < (i : Int) := by omega
                      have em : max x i = x := by omega
                      by_cases h3 : 3 ≤ i
                      · have k7 : (3 : Int) ≤ (i : Int) := by omega
                        by_cases he : i = a1
                        · have k8 : (i : Int) = (a1 : Int) := by omega
                          have k9 : ¬ (j : Int) < (a2 : Int) := by have := HBT.out h3 he; omega
                          clear h3
                          go_wp2_with fail
                          go_roundw
                          case rel => exact ⟨j + 1, max x i, by go_num, congrArg (Value.int .i64) (by omega), by omega, HI.out.step hjk HM.out, H2.drewN _⟩
                          case measure => first | (simp [intOf]; omega) | simp [intOf]
                        · have k8 : ¬ (i : Int) = (a1 : Int) := by omega
                          clear h3
                          go_wp2_with fail
                          go_roundw
                          case rel => exact ⟨j + 1, max x i, by go_num, congrArg (Value.int .i64) (by omega), by omega, HI.out.step hjk HM.out, H2.drewN _⟩
                          case measure => first | (simp [intOf]; omega) | simp [intOf]
                      · have k7 : ¬ (3 : Int) ≤ (i : Int) := by omega
                        clear h3
                        go_wp2_with fail
                        go_roundw
                        case rel => exact ⟨j + 1, max x i, by go_num, congrArg (Value.int .i64) (by omega), by omega, HI.out.step hjk HM.out, H2.drewN _⟩
                        case measure => first | (simp [intOf]; omega) | simp [intOf]
                · obtain rfl : i = 258 := by omega
                  have x1 : (k : Int) + 258 = (qi : Int) := by omega
                  have x2 : (k : Int) - (j : Int) + 258 = (pi : Int) := by omega
                  have hm : PM.mlen B (k - j) k = 258 := HFIN.out (.inl rfl)
                  have HM := Lib.hid hm
                  clear hm
                  go_wp2_with fail
                  go_quiet (fail)
                  have t0 : ∀ q, (wr.drewN q).cell? ⟨s3, 0, none⟩ = some (.int .i64 (a1 : Int)) := fun q => (H2.drewN q).cell 0 rfl 0
                  have t1 : ∀ q, (wr.drewN q).cell? ⟨s3, 1, none⟩ = some (.int .i64 (a2 : Int)) := fun q => (H2.drewN q).cell 0 rfl 1
                  have hbt : 3 ≤ 258 → 258 = a1 → a2 ≤ j := fun h3 he => by
                    have hin := PM.mlen_in (B := B) (p := k - j) (q := k) (by rw [← HL.out]; omega)
                    have hme := HM.out
                    have := (PM.best_all B k 32768 (by omega) (by omega) (by omega) j hj1 hjk (by omega)).2 (by rw [HA1.out]; omega)
                    rw [HA2.out] at this
                    exact this
                  have HBT := Lib.hid hbt
                  clear hbt
                  by_cases hxi : x < 258
                  · have k6 : (x : Int) < (258 : Int) := by omega
                    have em : max x 258 = 258 := by omega
                    by_cases h3 : 3 ≤ 258
                    · have k7 : (3 : Int) ≤ (258 : Int) := by omega
                      by_cases he : 258 = a1
                      · have k8 : (258 : Int) = (a1 : Int) := by omega
                        have k9 : ¬ (j : Int) < (a2 : Int) := by have := HBT.out h3 he; omega
                        clear h3
                        go_wp2_with fail
                        go_roundw
                        case rel => exact ⟨j + 1, max x 258, by go_num, congrArg (Value.int .i64) (by omega), by omega, HI.out.step hjk HM.out, H2.drewN _⟩
                        case measure => first | (simp [intOf]; omega) | simp [intOf]
                      · have k8 : ¬ (258 : Int) = (a1 : Int) := by omega
                        clear h3
                        go_wp2_with fail
                        go_roundw
                        case rel => exact ⟨j + 1, max x 258, by go_num, congrArg (Value.int .i64) (by omega), by omega, HI.out.step hjk HM.out, H2.drewN _⟩
                        case measure => first | (simp [intOf]; omega) | simp [intOf]
                    · have k7 : ¬ (3 : Int) ≤ (258 : Int) := by omega
                      clear h3
                      go_wp2_with fail
                      go_roundw
                      case rel => exact ⟨j + 1, max x 258, by go_num, congrArg (Value.int .i64) (by omega), by omega, HI.out.step hjk HM.out, H2.drewN _⟩
                      case measure => first | (simp [intOf]; omega) | simp [intOf]
                  · have k6 : ¬ (x : Int) < (258 : Int) := by omega
                    have em : max x 258 = x := by omega
                    by_cases h3 : 3 ≤ 258
                    · have k7 : (3 : Int) ≤ (258 : Int) := by omega
                      by_cases he : 258 = a1
                      · have k8 : (258 : Int) = (a1 : Int) := by omega
                        have k9 : ¬ (j : Int) < (a2 : Int) := by have := HBT.out h3 he; omega
                        clear h3
                        go_wp2_with fail
                        go_roundw
                        case rel => exact ⟨j + 1, max x 258, by go_num, congrArg (Value.int .i64) (by omega), by omega, HI.out.step hjk HM.out, H2.drewN _⟩
                        case measure => first | (simp [intOf]; omega) | simp [intOf]
                      · have k8 : ¬ (258 : Int) = (a1 : Int) := by omega
                        clear h3
                        go_wp2_with fail
                        go_roundw
                        case rel => exact ⟨j + 1, max x 258, by go_num, congrArg (Value.int .i64) (by omega), by omega, HI.out.step hjk HM.out, H2.drewN _⟩
                        case measure => first | (simp [intOf]; omega) | simp [intOf]
                    · have k7 : ¬ (3 : Int) ≤ (258 : Int) := by omega
                      clear h3
                      go_wp2_with fail
                      go_roundw
                      case rel => exact ⟨j + 1, max x 258, by go_num, congrArg (Value.int .i64) (by omega), by omega, HI.out.step hjk HM.out, H2.drewN _⟩
                      case measure => first | (simp [intOf]; omega) | simp [intOf]
              · have k2 : ¬ (qi : Int) < (n : Int) := by omega
                have hm : PM.mlen B (k - j) k = i := HFIN.out (.inr fun h => hend (by rw [← HQI.out, HL.out]; exact h.1))
                have HM := Lib.hid hm
                clear hm
                go_wp2_with fail
                go_quiet (fail)
                have t0 : ∀ q, (wr.drewN q).cell? ⟨s3, 0, none⟩ = some (.int .i64 (a1 : Int)) := fun q => (H2.drewN q).cell 0 rfl 0
                have t1 : ∀ q, (wr.drewN q).cell? ⟨s3, 1, none⟩ = some (.int .i64 (a2 : Int)) := fun q => (H2.drewN q).cell 0 rfl 1
                have hbt : 3 ≤ i → i = a1 → a2 ≤ j := fun h3 he => by
                  have hin := PM.mlen_in (B := B) (p := k - j) (q := k) (by rw [← HL.out]; omega)
                  have hme := HM.out
                  have := (PM.best_all B k 32768 (by omega) (by omega) (by omega) j hj1 hjk (by omega)).2 (by rw [HA1.out]; omega)
                  rw [HA2.out] at this
                  exact this
                have HBT := Lib.hid hbt
                clear hbt
                by_cases hxi : x < i
                · have k6 : (x : Int) < (i : Int) := by omega
                  have em : max x i = i := by omega
                  by_cases h3 : 3 ≤ i
                  · have k7 : (3 : Int) ≤ (i : Int) := by omega
                    by_cases he : i = a1
                    · have k8 : (i : Int) = (a1 : Int) := by omega
                      have k9 : ¬ (j : Int) < (a2 : Int) := by have := HBT.out h3 he; omega
                      clear h3
                      go_wp2_with fail
                      go_roundw
                      case rel => exact ⟨j + 1, max x i, by go_num, congrArg (Value.int .i64) (by omega), by omega, HI.out.step hjk HM.out, H2.drewN _⟩
                      case measure => first | (simp [intOf]; omega) | simp [intOf]
                    · have k8 : ¬ (i : Int) = (a1 : Int) := by omega
                      clear h3
                      go_wp2_with fail
                      go_roundw
                      case rel => exact ⟨j + 1, max x i, by go_num, congrArg (Value.int .i64) (by omega), by omega, HI.out.step hjk HM.out, H2.drewN _⟩
                      case measure => first | (simp [intOf]; omega) | simp [intOf]
                  · have k7 : ¬ (3 : Int) ≤ (i : Int) := by omega
                    clear h3
                    go_wp2_with fail
                    go_roundw
                    case rel => exact ⟨j + 1, max x i, by go_num, congrArg (Value.int .i64) (by omega), by omega, HI.out.step hjk HM.out, H2.drewN _⟩
                    case measure => first | (simp [intOf]; omega) | simp [intOf]
                · have k6 : ¬ (x : Int) < (i : Int) := by omega
                  have em : max x i = x := by omega
                  by_cases h3 : 3 ≤ i
                  · have k7 : (3 : Int) ≤ (i : Int) := by omega
                    by_cases he : i = a1
                    · have k8 : (i : Int) = (a1 : Int) := by omega
                      have k9 : ¬ (j : Int) < (a2 : Int) := by have := HBT.out h3 he; omega
                      clear h3
                      go_wp2_with fail
                      go_roundw
                      case rel => exact ⟨j + 1, max x i, by go_num, congrArg (Value.int .i64) (by omega), by omega, HI.out.step hjk HM.out, H2.drewN _⟩
                      case measure => first | (simp [intOf]; omega) | simp [intOf]
                    · have k8 : ¬ (i : Int) = (a1 : Int) := by omega
                      clear h3
                      go_wp2_with fail
                      go_roundw
                      case rel => exact ⟨j + 1, max x i, by go_num, congrArg (Value.int .i64) (by omega), by omega, HI.out.step hjk HM.out, H2.drewN _⟩
                      case measure => first | (simp [intOf]; omega) | simp [intOf]
                  · have k7 : ¬ (3 : Int) ≤ (i : Int) := by omega
                    clear h3
                    go_wp2_with fail
                    go_roundw
                    case rel => exact ⟨j + 1, max x i, by go_num, congrArg (Value.int .i64) (by omega), by omega, HI.out.step hjk HM.out, H2.drewN _⟩
                    case measure => first | (simp [intOf]; omega) | simp [intOf]
          · have k1 : decide ((j : Int) ≤ (k : Int)) = false := decide_eq_false (by omega)
            obtain rfl : j = k + 1 := by have := HI.out.2.1; omega
            obtain ⟨u1, u2⟩ := HI.out.end_ (by rw [← HL.out]; exact hkn) (by omega)
            rw [HA1.out] at u1 u2
            by_cases pa : 0 < a1
            · obtain rfl := u2 pa
              have u3 := u1.2 pa
              have k2 : (3 : Int) ≤ (a1 : Int) := by omega
              clear u1 u2
              go_wp2_with fail
              refine (wakes_ok H).mono ?_
              rintro _ w9 ⟨rfl, H9⟩
              go_wp2
              go_ret
              exact ⟨rfl, H9.tail⟩
            · have u3 : ¬ 3 ≤ x := fun h => pa (u1.1 h)
              have k2 : ¬ (3 : Int) ≤ (x : Int) := by omega
              clear u1 u2
              try (exfalso; omega)
              all_goals (
                go_wp2_with fail
                refine (wakes_ok H).mono ?_
                rintro _ w9 ⟨rfl, H9⟩
                go_wp2
                go_ret
                exact ⟨rfl, H9.tail⟩)
      · have p5 : ¬ (f1 : Int) = m1 := by omega
        go_wp2_with fail
        generalize w5.heap.size = s3 at G5 ⊢
        generalize w5.alloc _ = w6 at G5 ⊢
        clear y0 y1 y2 y3 H5 w5 r1 r2 p1
        go_loopw [16, 17] (fun lv fv wr => ∃ (j x : Nat), fv = .int .i64 (j : Int) ∧ lv = .int .i64 (x : Int) ∧ x ≤ 258 ∧ MoreInv B k j x ∧ Sp w0 (Bk s3 25 [.int .i64 (a1 : Int), .int .i64 (a2 : Int), .int .u8 0] :: L) wr) (fun _ fv _ => k + 1 - (intOf fv).toNat)
        case atStart => exact ⟨1, 0, rfl, rfl, by omega, ⟨by omega, by omega, fun f h1 h2 => by omega, .inl rfl⟩, G5.pick 3 [0]⟩
        case round =>
          obtain ⟨j, x, rfl, rfl, hx, hinv, H⟩ := hrel
          have HI := Lib.hid hinv
          have t0 : wr.cell? ⟨s3, 0, none⟩ = some (.int .i64 (a1 : Int)) := H.cell 0 rfl 0
          have t1 : wr.cell? ⟨s3, 1, none⟩ = some (.int .i64 (a2 : Int)) := H.cell 0 rfl 1
          have hj1 : 1 ≤ j := hinv.1
          clear hinv
          by_cases hjk : j ≤ k
          · have k1 : decide ((j : Int) ≤ (k : Int)) = true := decide_eq_true (by omega)
            go_wp2_with fail
            clear t0 t1 k1
            go_loopw [18] (fun nv wz => ∃ i : Nat, nv = .int .i64 (i : Int) ∧ i ≤ 258 ∧ (∀ t, t < i → k + t < B.length ∧ B.getD (k - j + t) 0 = B.getD (k + t) 0) ∧ Sp w0 (Bk s3 25 [.int .i64 (a1 : Int), .int .i64 (a2 : Int), .int .u8 0] :: L) wz) (fun nv _ => 258 - (intOf nv).toNat)
            case atStart => exact ⟨0, rfl, by omega, fun t ht => absurd ht (Nat.not_lt_zero _), H⟩
            case round =>
              obtain ⟨i, rfl, hi, hsame, H2⟩ := hrel
              have HS := Lib.hid hsame
              clear hsame
              obtain ⟨qi, hqi⟩ : ∃ qi, k + i = qi := ⟨_, rfl⟩
              obtain ⟨pi, hpi⟩ : ∃ pi, k - j + i = pi := ⟨_, rfl⟩
              have x1 : (k : Int) + (i : Int) = (qi : Int) := by omega
              have x2 : (k : Int) - (j : Int) + (i : Int) = (pi : Int) := by omega
              have hqi2 : qi ≤ 1000 := by omega
              have hpq : pi ≤ qi := by omega
              have HQI := Lib.hid hqi
              have HPI := Lib.hid hpi
              have hfin : (i = 258 ∨ ¬ (k + i < B.length ∧ B.getD (k - j + i) 0 = B.getD (k + i) 0)) → PM.mlen B (k - j) k = i := fun h => PM.mlen_of B (k - j) k i hi HS.out h
              have HFIN := Lib.hid hfin
              clear hqi hpi hfin
              by_cases hend : qi < n
              · have k2 : (qi : Int) < (n : Int) := by omega
                by_cases h258 : i < 258
                · have k3 : (i : Int) < 258 := by omega
                  have hqB : qi < B.length := by rw [← HL.out]; exact hend
                  have hpB : pi < B.length := by omega
                  have k4 : (pi : Int) < (n : Int) := by omega
                  obtain ⟨ad, rfl⟩ : ∃ ad, A0 = some ad := by
                    obtain ⟨_, _, e, hr, _, _⟩ := HB.out _ _ (H2.pick 1 [])
                    obtain ⟨ad, e2, _⟩ := hr.at8 hqB
                    injection e with e
                    exact ⟨ad, e.trans e2⟩
                  have hcell : ∀ t (h : t < B.length), wr.cell? (ad.add t) = some (.int .u8 ((B[t]).toNat : Int)) := fun t h => by
                    obtain ⟨_, _, e, hr, _, _⟩ := HB.out _ _ (H2.pick 1 [])
                    obtain ⟨ad2, e2, hc⟩ := hr.at8 h
                    injection e with e
                    rw [← e] at e2
                    injection e2 with e2
                    rw [e2]; exact hc
                  obtain ⟨xb, hxb⟩ : ∃ xb, (B[pi]).toNat = xb := ⟨_, rfl⟩
                  obtain ⟨yb, hyb⟩ : ∃ yb, (B[qi]).toNat = yb := ⟨_, rfl⟩
                  have hbe : B.getD (k - j + i) 0 = B.getD (k + i) 0 ↔ xb = yb := by
                    rw [HPI.out, HQI.out, List.getD_eq_getElem?_getD, List.getD_eq_getElem?_getD, List.getElem?_eq_getElem hpB, List.getElem?_eq_getElem hqB, ← hxb, ← hyb]
                    exact UInt8.toNat_inj.symm
                  have z1 := hcell pi hpB
                  have z2 := hcell qi hqB
                  rw [hxb] at z1
                  rw [hyb] at z2
                  have HBE := Lib.hid hbe
                  clear hcell hbe hxb hyb
                  by_cases hxy : xb = yb
                  · have k5 : ((xb : Int) == (yb : Int)) = true := by rw [beq_iff_eq]; omega
                    have HXY := Lib.hid hxy
                    clear hxy
                    go_wp2_with fail
                    go_quiet (fail)
                    go_wp2
                    go_roundw
                    case rel =>
                      refine ⟨i + 1, by go_num, by omega, fun t ht => ?_, H2.drewN _⟩
                      by_cases e : t = i
                      · subst e
                        exact ⟨by rw [HQI.out]; exact hqB, HBE.out.2 HXY.out⟩
                      · exact HS.out t (by omega)
                    case measure => first | (simp [intOf]; omega) | simp [intOf]
                  · have k5 : ((xb : Int) == (yb : Int)) = false := by rw [beq_eq_false_iff_ne]; omega
                    have hm : PM.mlen B (k - j) k = i := HFIN.out (.inr fun h => hxy (HBE.out.1 h.2))
                    have HM := Lib.hid hm
                    clear hm hxy
                    go_wp2_with fail
                    go_quiet (fail)
                    have t0 : ∀ q, (wr.drewN q).cell? ⟨s3, 0, none⟩ = some (.int .i64 (a1 : Int)) := fun q => (H2.drewN q).cell 0 rfl 0
                    have t1 : ∀ q, (wr.drewN q).cell? ⟨s3, 1, none⟩ = some (.int .i64 (a2 : Int)) := fun q => (H2.drewN q).cell 0 rfl 1
                    have hbt : 3 ≤ i → i = a1 → a2 ≤ j := fun h3 he => by
                      have hin := PM.mlen_in (B := B) (p := k - j) (q := k) (by rw [← HL.out]; omega)
                      have hme := HM.out
                      have := (PM.best_all B k 32768 (by omega) (by omega) (by omega) j hj1 hjk (by omega)).2 (by rw [HA1.out]; omega)
                      rw [HA2.out] at this
                      exact this
                    have HBT := Lib.hid hbt
                    clear hbt
                    by_cases hxi : x < i
                    · have k6 : (x : Int) < (i : Int) := by omega
                      have em : max x i = i := by omega
                      by_cases h3 : 3 ≤ i
                      · have k7 : (3 : Int) ≤ (i : Int) := by omega
                        by_cases he : i = a1
                        · have k8 : (i : Int) = (a1 : Int) := by omega
                          have k9 : ¬ (j : Int) < (a2 : Int) := by have := HBT.out h3 he; omega
                          clear h3
                          go_wp2_with fail
                          go_roundw
                          case rel => exact ⟨j + 1, max x i, by go_num, congrArg (Value.int .i64) (by omega), by omega, HI.out.step hjk HM.out, H2.drewN _⟩
                          case measure => first | (simp [intOf]; omega) | simp [intOf]
                        · have k8 : ¬ (i : Int) = (a1 : Int) := by omega
                          clear h3
                          go_wp2_with fail
                          go_roundw
                          case rel => exact ⟨j + 1, max x i, by go_num, congrArg (Value.int .i64) (by omega), by omega, HI.out.step hjk HM.out, H2.drewN _⟩
                          case measure => first | (simp [intOf]; omega) | simp [intOf]
                      · have k7 : ¬ (3 : Int) ≤ (i : Int) := by omega
                        clear h3
                        go_wp2_with fail
                        go_roundw
                        case rel => exact ⟨j + 1, max x i, by go_num, congrArg (Value.int .i64) (by omega), by omega, HI.out.step hjk HM.out, H2.drewN _⟩
                        case measure => first | (simp [intOf]; omega) | simp [intOf]
                    · have k6 : ¬ (x : Int) < (i : Int) := by omega
                      have em : max x i = x := by omega
                      by_cases h3 : 3 ≤ i
                      · have k7 : (3 : Int) ≤ (i : Int) := by omega
                        by_cases he : i = a1
                        · have k8 : (i : Int) = (a1 : Int) := by omega
                          have k9 : ¬ (j : Int) < (a2 : Int) := by have := HBT.out h3 he; omega
                          clear h3
                          go_wp2_with fail
                          go_roundw
                          case rel => exact ⟨j + 1, max x i, by go_num, congrArg (Value.int .i64) (by omega), by omega, HI.out.step hjk HM.out, H2.drewN _⟩
                          case measure => first | (simp [intOf]; omega) | simp [intOf]
                        · have k8 : ¬ (i : Int) = (a1 : Int) := by omega
                          clear h3
                          go_wp2_with fail
                          go_roundw
                          case rel => exact ⟨j + 1, max x i, by go_num, congrArg (Value.int .i64) (by omega), by omega, HI.out.step hjk HM.out, H2.drewN _⟩
                          case measure => first | (simp [intOf]; omega) | simp [intOf]
                      · have k7 : ¬ (3 : Int) ≤ (i : Int) := by omega
                        clear h3
                        go_wp2_with fail
                        go_roundw
                        case rel => exact ⟨j + 1, max x i, by go_num, congrArg (Value.int .i64) (by omega), by omega, HI.out.step hjk HM.out, H2.drewN _⟩
                        case measure => first | (simp [intOf]; omega) | simp [intOf]
                · obtain rfl : i = 258 := by omega
                  have x1 : (k : Int) + 258 = (qi : Int) := by omega
                  have x2 : (k : Int) - (j : Int) + 258 = (pi : Int) := by omega
                  have hm : PM.mlen B (k - j) k = 258 := HFIN.out (.inl rfl)
                  have HM := Lib.hid hm
                  clear hm
                  go_wp2_with fail
                  go_quiet (fail)
                  have t0 : ∀ q, (wr.drewN q).cell? ⟨s3, 0, none⟩ = some (.int .i64 (a1 : Int)) := fun q => (H2.drewN q).cell 0 rfl 0
                  have t1 : ∀ q, (wr.drewN q).cell? ⟨s3, 1, none⟩ = some (.int .i64 (a2 : Int)) := fun q => (H2.drewN q).cell 0 rfl 1
                  have hbt : 3 ≤ 258 → 258 = a1 → a2 ≤ j := fun h3 he => by
                    have hin := PM.mlen_in (B := B) (p := k - j) (q := k) (by rw [← HL.out]; omega)
                    have hme := HM.out
                    have := (PM.best_all B k 32768 (by omega) (by omega) (by omega) j hj1 hjk (by omega)).2 (by rw [HA1.out]; omega)
                    rw [HA2.out] at this
                    exact this
                  have HBT := Lib.hid hbt
                  clear hbt
                  by_cases hxi : x < 258
                  · have k6 : (x : Int) < (258 : Int) := by omega
                    have em : max x 258 = 258 := by omega
                    by_cases h3 : 3 ≤ 258
                    · have k7 : (3 : Int) ≤ (258 : Int) := by omega
                      by_cases he : 258 = a1
                      · have k8 : (258 : Int) = (a1 : Int) := by omega
                        have k9 : ¬ (j : Int) < (a2 : Int) := by have := HBT.out h3 he; omega
                        clear h3
                        go_wp2_with fail
                        go_roundw
                        case rel => exact ⟨j + 1, max x 258, by go_num, congrArg (Value.int .i64) (by omega), by omega, HI.out.step hjk HM.out, H2.drewN _⟩
                        case measure => first | (simp [intOf]; omega) | simp [intOf]
                      · have k8 : ¬ (258 : Int) = (a1 : Int) := by omega
                        clear h3
                        go_wp2_with fail
                        go_roundw
                        case rel => exact ⟨j + 1, max x 258, by go_num, congrArg (Value.int .i64) (by omega), by omega, HI.out.step hjk HM.out, H2.drewN _⟩
                        case measure => first | (simp [intOf]; omega) | simp [intOf]
                    · have k7 : ¬ (3 : Int) ≤ (258 : Int) := by omega
                      clear h3
                      go_wp2_with fail
                      go_roundw
                      case rel => exact ⟨j + 1, max x 258, by go_num, congrArg (Value.int .i64) (by omega), by omega, HI.out.step hjk HM.out, H2.drewN _⟩
                      case measure => first | (simp [intOf]; omega) | simp [intOf]
                  · have k6 : ¬ (x : Int) < (258 : Int) := by omega
                    have em : max x 258 = x := by omega
                    by_cases h3 : 3 ≤ 258
                    · have k7 : (3 : Int) ≤ (258 : Int) := by omega
                      by_cases he : 258 = a1
                      · have k8 : (258 : Int) = (a1 : Int) := by omega
                        have k9 : ¬ (j : Int) < (a2 : Int) := by have := HBT.out h3 he; omega
                        clear h3
                        go_wp2_with fail
                        go_roundw
                        case rel => exact ⟨j + 1, max x 258, by go_num, congrArg (Value.int .i64) (by omega), by omega, HI.out.step hjk HM.out, H2.drewN _⟩
                        case measure => first | (simp [intOf]; omega) | simp [intOf]
                      · have k8 : ¬ (258 : Int) = (a1 : Int) := by omega
                        clear h3
                        go_wp2_with fail
                        go_roundw
                        case rel => exact ⟨j + 1, max x 258, by go_num, congrArg (Value.int .i64) (by omega), by omega, HI.out.step hjk HM.out, H2.drewN _⟩
                        case measure => first | (simp [intOf]; omega) | simp [intOf]
                    · have k7 : ¬ (3 : Int) ≤ (258 : Int) := by omega
                      clear h3
                      go_wp2_with fail
                      go_roundw
                      case rel => exact ⟨j + 1, max x 258, by go_num, congrArg (Value.int .i64) (by omega), by omega, HI.out.step hjk HM.out, H2.drewN _⟩
                      case measure => first | (simp [intOf]; omega) | simp [intOf]
              · have k2 : ¬ (qi : Int) < (n : Int) := by omega
                have hm : PM.mlen B (k - j) k = i := HFIN.out (.inr fun h => hend (by rw [← HQI.out, HL.out]; exact h.1))
                have HM := Lib.hid hm
                clear hm
                go_wp2_with fail
                go_quiet (fail)
                have t0 : ∀ q, (wr.drewN q).cell? ⟨s3, 0, none⟩ = some (.int .i64 (a1 : Int)) := fun q => (H2.drewN q).cell 0 rfl 0
                have t1 : ∀ q, (wr.drewN q).cell? ⟨s3, 1, none⟩ = some (.int .i64 (a2 : Int)) := fun q => (H2.drewN q).cell 0 rfl 1
                have hbt : 3 ≤ i → i = a1 → a2 ≤ j := fun h3 he => by
                  have hin := PM.mlen_in (B := B) (p := k - j) (q := k) (by rw [← HL.out]; omega)
                  have hme := HM.out
                  have := (PM.best_all B k 32768 (by omega) (by omega) (by omega) j hj1 hjk (by omega)).2 (by rw [HA1.out]; omega)
                  rw [HA2.out] at this
                  exact this
                have HBT := Lib.hid hbt
                clear hbt
                by_cases hxi : x < i
                · have k6 : (x : Int) < (i : Int) := by omega
                  have em : max x i = i := by omega
                  by_cases h3 : 3 ≤ i
                  · have k7 : (3 : Int) ≤ (i : Int) := by omega
                    by_cases he : i = a1
                    · have k8 : (i : Int) = (a1 : Int) := by omega
                      have k9 : ¬ (j : Int) < (a2 : Int) := by have := HBT.out h3 he; omega
                      clear h3
                      go_wp2_with fail
                      go_roundw
                      case rel => exact ⟨j + 1, max x i, by go_num, congrArg (Value.int .i64) (by omega), by omega, HI.out.step hjk HM.out, H2.drewN _⟩
                      case measure => first | (simp [intOf]; omega) | simp [intOf]
                    · have k8 : ¬ (i : Int) = (a1 : Int) := by omega
                      clear h3
                      go_wp2_with fail
                      go_roundw
                      case rel => exact ⟨j + 1, max x i, by go_num, congrArg (Value.int .i64) (by omega), by omega, HI.out.step hjk HM.out, H2.drewN _⟩
                      case measure => first | (simp [intOf]; omega) | simp [intOf]
                  · have k7 : ¬ (3 : Int) ≤ (i : Int) := by omega
                    clear h3
                    go_wp2_with fail
                    go_roundw
                    case rel => exact ⟨j + 1, max x i, by go_num, congrArg (Value.int .i64) (by omega), by omega, HI.out.step hjk HM.out, H2.drewN _⟩
                    case measure => first | (simp [intOf]; omega) | simp [intOf]
                · have k6 : ¬ (x : Int) < (i : Int) := by omega
                  have em : max x i = x := by omega
                  by_cases h3 : 3 ≤ i
                  · have k7 : (3 : Int) ≤ (i : Int) := by omega
                    by_cases he : i = a1
                    · have k8 : (i : Int) = (a1 : Int) := by omega
                      have k9 : ¬ (j : Int) < (a2 : Int) := by have := HBT.out h3 he; omega
                      clear h3
                      go_wp2_with fail
                      go_roundw
                      case rel => exact ⟨j + 1, max x i, by go_num, congrArg (Value.int .i64) (by omega), by omega, HI.out.step hjk HM.out, H2.drewN _⟩
                      case measure => first | (simp [intOf]; omega) | simp [intOf]
                    · have k8 : ¬ (i : Int) = (a1 : Int) := by omega
                      clear h3
                      go_wp2_with fail
                      go_roundw
                      case rel => exact ⟨j + 1, max x i, by go_num, congrArg (Value.int .i64) (by omega), by omega, HI.out.step hjk HM.out, H2.drewN _⟩
                      case measure => first | (simp [intOf]; omega) | simp [intOf]
                  · have k7 : ¬ (3 : Int) ≤ (i : Int) := by omega
                    clear h3
                    go_wp2_with fail
                    go_roundw
                    case rel => exact ⟨j + 1, max x i, by go_num, congrArg (Value.int .i64) (by omega), by omega, HI.out.step hjk HM.out, H2.drewN _⟩
                    case measure => first | (simp [intOf]; omega) | simp [intOf]
          · have k1 : decide ((j : Int) ≤ (k : Int)) = false := decide_eq_false (by omega)
            obtain rfl : j = k + 1 := by have := HI.out.2.1; omega
            obtain ⟨u1, u2⟩ := HI.out.end_ (by rw [← HL.out]; exact hkn) (by omega)
            rw [HA1.out] at u1 u2
            by_cases pa : 0 < a1
            · obtain rfl := u2 pa
              have u3 := u1.2 pa
              have k2 : (3 : Int) ≤ (a1 : Int) := by omega
              clear u1 u2
              go_wp2_with fail
              refine (wakes_ok H).mono ?_
              rintro _ w9 ⟨rfl, H9⟩
              go_wp2
              go_ret
              exact ⟨rfl, H9.tail⟩
            · have u3 : ¬ 3 ≤ x := fun h => pa (u1.1 h)
              have k2 : ¬ (3 : Int) ≤ (x : Int) := by omega
              clear u1 u2
              try (exfalso; omega)
              all_goals (
                go_wp2_with fail
                refine (wakes_ok H).mono ?_
                rintro _ w9 ⟨rfl, H9⟩
                go_wp2
                go_ret
                exact ⟨rfl, H9.tail⟩)
end Go.Proofs.Ytdlbhoedmaifpaa
