/- BytesRep: bytes.Repeat of one byte. -/
import Derived.Test.YtdlbhoedmaifpaaLib3
import Derived.Test.YtdlbhoedmaifpaaSepRegion3
import Derived.Lib.MakeNoZero
import Derived.Lib.SlBuf
import Derived.Laws.CopyRow
import Derived.Shelf.Bits.Mul64
namespace Go.Proofs.Ytdlbhoedmaifpaa
open Go.RowKit
theorem setRow_put (w : World) (g : Nat) (cur cs : Array Value) (t : TypeId) (fr : Nat × Nat) (hg : w.heap[g]? = some (.cells cur t fr)) : w.setRow g cs = { w with heap := w.heap.setIfInBounds g (.cells cs t fr) } := by
  unfold World.setRow
  refine congrArg (fun x => { w with heap := x }) ?_
  have hl := (Array.getElem?_eq_some_iff.1 hg).1
  apply Array.ext_getElem?
  intro i
  rw [Array.getElem?_modify, Array.getElem?_setIfInBounds]
  by_cases hi : g = i
  · subst hi
    rw [if_pos rfl, if_pos rfl, if_pos hl, hg]
    rfl
  · rw [if_neg hi, if_neg hi]
/-- A buffer of n bytes of which the first ones are this byte. -/
def RB (g n : Nat) (c : UInt8) (bp : Nat) : Pr := Ex fun cur : Array Value => Ex fun (_ : n ≤ cur.size ∧ bp ≤ n ∧ cur.toList.take bp = cells8 (List.replicate bp c)) => Is g (.cells cur 5 (0, 0))
theorem RB.rd {w0 w : World} {L : List Pr} {g n bp : Nat} {c : UInt8} (H : Sp w0 (RB g n c bp :: L) w) : Rd w (some ⟨g, 0, none⟩) (cells8 (List.replicate bp c)) := by
  obtain ⟨cur, H⟩ := H.unex
  obtain ⟨⟨h1, h2, h3⟩, H⟩ := H.unex
  have hh := H.is_ 0 rfl
  refine fun _ => ⟨_, rfl, fun j u hu => ?_⟩
  have e1 : (Addr.add ⟨g, 0, none⟩ j) = ⟨g, j, none⟩ := by
    unfold Addr.add; split
    · rename_i h0; subst h0; rfl
    · simp
  rw [e1]
  have hj : j < bp := by
    have := (List.getElem?_eq_some_iff.1 hu).1
    simpa [cells8] using this
  rw [← h3, List.getElem?_take_of_lt hj] at hu
  simp [World.cell?, hh]
  simpa using hu
theorem RB.byt {w0 w : World} {L : List Pr} {g n : Nat} {c : UInt8} (H : Sp w0 (RB g n c n :: L) w) (hn : n ≤ maxLen) : Byt w (.slice (some ⟨g, 0, none⟩) n n) (List.replicate n c) :=
  ⟨some ⟨g, 0, none⟩, n, by rw [List.length_replicate], RB.rd H, by rw [List.length_replicate]; exact Nat.le_refl _, hn⟩
theorem RB.copy {w0 w : World} {L : List Pr} {g n bp k : Nat} {c : UInt8} (H : Sp w0 (RB g n c bp :: L) w) (a : Addr) (sLen sCap dCap : Nat) (ty : TypeId) (hk : k = min sLen (n - bp))
    (hsrc : ∀ j u, (cells8 (List.replicate k c))[j]? = some u → w.cell? (a.add j) = some u) :
    ∃ w', (Builtin.copy_ #[22, 22] ty #[.slice (some ⟨g, bp, none⟩) (n - bp) dCap, .slice (some a) sLen sCap]).run Try.prog w = .ok (.int .i64 (k : Int)) w' ∧ Sp w0 (RB g n c (bp + k) :: L) w' := by
  obtain ⟨i0, hi0, hz0, hz1, hz2⟩ := info_parts info8
  obtain ⟨cur, H⟩ := H.unex
  obtain ⟨⟨h1, h2, h3⟩, H⟩ := H.unex
  have hg := H.is_ 0 rfl
  have hl : (cells8 (List.replicate k c)).length = k := by simp [cells8]
  have hr := run_copy_row (P := Try.prog) w 22 22 ty 5 g bp (n - bp) dCap a sLen sCap cur 5 (cells8 (List.replicate k c)) Try.underlying22 (by rw [hi0]; simp [hz1]) hg (by rw [hl]; exact hk) hsrc (by rw [hl]; omega) (cells8_one _)
  rw [hl] at hr
  refine ⟨_, hr, ?_⟩
  rw [setRow_put w g cur _ _ _ hg]
  refine Sp.ex _ (Sp.ex ⟨?_, ?_, ?_⟩ (H.put _))
  · simp [hl]; omega
  · omega
  · show List.take (bp + k) (cur.toList.take bp ++ cells8 (List.replicate k c) ++ cur.toList.drop (bp + k)) = _
    have e1 : (cur.toList.take bp ++ cells8 (List.replicate k c)).length = bp + k := by
      rw [List.length_append, hl, List.length_take]
      simp only [Array.length_toList]
      omega
    rw [List.take_append_of_le_length (by omega), List.take_of_length_le (by omega), h3, ← List.replicate_append_replicate]
    exact List.map_append.symm
set_option maxHeartbeats 1000000 in
theorem mul_one_ok (n : Nat) (hn : n ≤ 65536) (w : World) :
    Calls Try.prog 50 #[.int .u64 1, .int .u64 (n : Int)] w fun e w' => e = .returned (.tuple #[.int .u64 0, .int .u64 (n : Int)]) ∧ w = w' := by
  have h1 : bits .and .u64 (n : Int) 4294967295 = (n : Int) := by
    rw [Go.Proofs.Mul64.maskN n (by omega)]
    omega
  have h2 : (n : Int) / 4294967296 = 0 := by omega
  have h3 : bits .and .u64 1 4294967295 = 1 := by decide +kernel
  have h4 : bits .and .u64 0 4294967295 = 0 := by decide +kernel
  have hm : Calls Try.prog 64 #[.int .u64 1, .int .u64 (n : Int)] w fun e w' => e = .returned (.tuple #[.int .u64 0, .int .u64 (n : Int)]) ∧ w = w' := by
    go_enter Try.func64, Try.ntmps64
    go_wp2
    go_ret2
    exact ⟨rfl, rfl⟩
  go_enter Try.func50, Try.ntmps50
  go_wp2_with fail
  refine hm.mono ?_
  rintro _ _ ⟨rfl, rfl⟩
  go_wp2_with fail
  go_ret2
  exact ⟨rfl, rfl⟩
set_option maxRecDepth 100000 in
set_option maxHeartbeats 1000000 in
theorem repeat_ok (A : Option Addr) (ca : Nat) (c : UInt8) (n : Nat) {w0 w : World} {L : List Pr} (H : Sp w0 L w) (hb : Ent L (fun w => Byt w (.slice A 1 ca) [c])) (hn1 : 1 ≤ n) (hn : n ≤ 4096) :
    Calls Try.prog 25 #[.slice A 1 ca, .int .i64 (n : Int)] w fun e w' => ∃ g, e = .returned (.slice (some ⟨g, 0, none⟩) n n) ∧ Sp w0 (RB g n c n :: L) w' := by
  obtain ⟨cs, hrunM, hle, _⟩ := Lib.run_makeNoZero (P := Try.prog) w #[3] 22 5 Try.underlying22 n (by omega)
  have hcall : (callFunc 51 #[.int .i64 (n : Int)]).run Try.prog w = .ok (.value (.slice (some ⟨w.heap.size, 0, none⟩) n cs.size)) ((w.alloc (.cells cs 5)).drewN 2) := by
    rw [run_callFunc_extern Try.func51 (by kernel_rfl) (by kernel_rfl) (by kernel_rfl) (e := Extern.BytealgMakeNoZero.makeNoZero #[3] #[22]) (by kernel_rfl), hrunM]
    rfl
  clear hrunM
  have H1 := (H.new (.cells cs 5)).drewN 2
  have H2 : Sp w0 (RB w.heap.size n c 0 :: L) ((w.alloc (.cells cs 5)).drewN 2) := Sp.ex cs (Sp.ex ⟨hle, Nat.zero_le _, rfl⟩ H1)
  obtain ⟨ad, rfl⟩ : ∃ ad, A = some ad := by
    obtain ⟨_, _, e, hr, _, _⟩ := hb _ _ H
    obtain ⟨ad, e2, _⟩ := hr.at8 (k := 0) (by simp)
    injection e with e
    exact ⟨ad, e.trans e2⟩
  have hsrc : ∀ j u, (cells8 (List.replicate 1 c))[j]? = some u → ((w.alloc (.cells cs 5)).drewN 2).cell? (ad.add j) = some u := by
    obtain ⟨_, _, e, hr, _, _⟩ := hb _ _ H2.tail
    obtain ⟨ad2, e2, hc⟩ := hr (by simp [cells8])
    injection e with e
    rw [← e] at e2
    injection e2 with e2
    rw [e2]
    exact hc
  obtain ⟨w1, hr1, H3⟩ := RB.copy H2 ad 1 ca n 3 (k := 1) (by omega) hsrc
  rw [Nat.sub_zero] at hr1
  rw [Nat.zero_add] at H3
  have k1 : ¬ (8192 : Int) < (n : Int) := by omega
  have k2 : ¬ (9223372036854775807 : Int) < (n : Int) := by omega
  have k3 : ¬ (n : Int) < 0 := by omega
  have k4 : ((n : Int) == 0) = false := by rw [beq_eq_false_iff_ne]; omega
  have k5 : (n : Int) ≤ (cs.size : Int) := by omega
  clear H1 H2 hsrc hle
  go_enter Try.func25, Try.ntmps25
  go_wp2_with fail
  refine (mul_one_ok n (by omega) _).mono ?_
  rintro _ _ ⟨rfl, rfl⟩
  go_wp2_with (at_builtin; refine Lib.wpList_copy_run _ rfl _ _ 22 22 rfl _ _ rfl rfl hr1 ?_)
  clear hcall hr1
  generalize w.heap.size = g at H3 ⊢
  go_wp2_with fail
  go_loopw [10, 11] (fun bv _ wr => ∃ bp : Nat, bv = .int .i64 (bp : Int) ∧ 1 ≤ bp ∧ bp ≤ n ∧ Sp w0 (RB g n c bp :: L) wr) (fun bv _ _ => n - (intOf bv).toNat)
  case atStart => exact ⟨1, rfl, Nat.le_refl _, hn1, H3⟩
  case round =>
    obtain ⟨bp, rfl, hb1, hbn, H4⟩ := hrel
    by_cases hlt : bp < n
    · have k6 : (bp : Int) < (n : Int) := by omega
      have hmn : ∀ W : World, (Builtin.min_ #[3, 3] 3 #[.int .i64 (bp : Int), .int .i64 (n : Int)]).run Try.prog W = .ok (.int .i64 (bp : Int)) W := fun W => by
        simp [Builtin.min_, Builtin.min2]
        omega
      obtain ⟨k, hk⟩ : ∃ k, k = min bp (n - bp) := ⟨_, rfl⟩
      obtain ⟨q, hq⟩ : ∃ q, bp + k = q := ⟨_, rfl⟩
      have y0 : (bp : Int) + (k : Int) = (q : Int) := by omega
      have y1 : ¬ n = bp := by omega
      have y2 : bp ≤ n := by omega
      have y3 : ¬ bp = 0 := by omega
      have y4 : q ≤ n := by omega
      have HK := Lib.hid hk
      have HQ := Lib.hid hq
      have hkq : 1 ≤ k := by omega
      clear hk hq
      go_wp2_with fail
      clear hmn
      refine wp_region_sq (L := L) (fun ix vx => ([(· = .int .i64 (bp : Int)), (· = .slice (some ⟨g, 0, none⟩) n n), (· = .int .i64 (bp : Int)), (· = .slice (some ⟨g, bp, none⟩) (n - bp) (n - bp)), (· = .slice (some ⟨g, 0, none⟩) n n), (· = .int .i64 (bp : Int)), (· = .slice (some ⟨g, 0, none⟩) bp n), (· = .int .i64 (k : Int)), (· = .int .i64 (q : Int)), (· = .int .i64 (q : Int))] : List (Value → Prop)).getD ix (fun _ => True) vx)
        (fun ix vx => ([fun _ => [], fun _ => [], fun _ => [], fun _ => [], fun _ => [], fun _ => [], fun _ => [], fun _ => [RB g n c (bp + k)], fun _ => [], fun _ => []] : List (Value → List Pr)).getD ix (fun _ => []) vx) (fun ix => ([[], [], [], [], [], [], [], [RB g n c bp], [], []] : List (List Pr)).getD ix []) 10 77
        [some 67, some 68, some 69, some 70, some 71, some 72, some 73, some 74, some 75, some 10]
        [[], [], [], [1, 2], [], [], [4, 5], [3, 6], [0, 7], [8, 7, 0, 1, 2, 3, 4, 5, 6, 7, 8]]
        [[], [], [], [1, 2], [], [], [4, 5], [1, 2, 3, 4, 5, 6], [0, 1, 2, 3, 4, 5, 6, 7], [0, 1, 2, 3, 4, 5, 6, 7, 8]]
        [[], [], [], [], [], [], [], [], [], []]
        [[], [], [], [], [], [], [], [], [], []]
        [(9, .slice (some ⟨g, 0, none⟩) n n), (10, .int .i64 (bp : Int)), (11, .int .i64 (bp : Int))]
        (by kernel_rfl) rfl (by decide) (by rfl) rfl (by decide +kernel) (by decide +kernel) (by rfl) rfl rfl (by decide) (by simp) (H4) ?hstep ?hend
      case hstep =>
        refine ⟨?_, ⟨?_, ⟨?_, ⟨?_, ⟨?_, ⟨?_, ⟨?_, ⟨?_, ⟨?_, ⟨?_, trivial⟩⟩⟩⟩⟩⟩⟩⟩⟩⟩
        · intro x wx A rest hN hS hE H K hK0
          have e10 : A.tmps[10]?.getD undef = .int .i64 (bp : Int) := hN (10, .int .i64 (bp : Int)) (by simp) (by rfl)
          replace H : Sp w0 (rest) wx := H
          have hK : Hid (∀ (v : Value) (w' : World), v = .int .i64 (bp : Int) → Sp w0 (rest) w' → K (A.put (some 67) v) w') := Lib.hid hK0
          clear hK0 hN hS hE
          change Oper.wp _ _ A wx K _
          go_step
          exact hK.out _ _ rfl (H)
        · intro x wx A rest hN hS hE H K hK0
          have e9 : A.tmps[9]?.getD undef = .slice (some ⟨g, 0, none⟩) n n := hN (9, .slice (some ⟨g, 0, none⟩) n n) (by simp) (by rfl)
          replace H : Sp w0 (rest) wx := H
          have hK : Hid (∀ (v : Value) (w' : World), v = .slice (some ⟨g, 0, none⟩) n n → Sp w0 (rest) w' → K (A.put (some 68) v) w') := Lib.hid hK0
          clear hK0 hN hS hE
          change Oper.wp _ _ A wx K _
          go_step
          exact hK.out _ _ rfl (H)
        · intro x wx A rest hN hS hE H K hK0
          have e10 : A.tmps[10]?.getD undef = .int .i64 (bp : Int) := hN (10, .int .i64 (bp : Int)) (by simp) (by rfl)
          replace H : Sp w0 (rest) wx := H
          have hK : Hid (∀ (v : Value) (w' : World), v = .int .i64 (bp : Int) → Sp w0 (rest) w' → K (A.put (some 69) v) w') := Lib.hid hK0
          clear hK0 hN hS hE
          change Oper.wp _ _ A wx K _
          go_step
          exact hK.out _ _ rfl (H)
        · intro x wx A rest hN hS hE H K hK0
          have e68 : A.tmps[68]?.getD undef = .slice (some ⟨g, 0, none⟩) n n := ((hS 1 (by decide)).2 68 rfl).trans (hS 1 (by decide)).1
          have e69 : A.tmps[69]?.getD undef = .int .i64 (bp : Int) := ((hS 2 (by decide)).2 69 rfl).trans (hS 2 (by decide)).1
          replace H : Sp w0 (rest) wx := H
          have hK : Hid (∀ (v : Value) (w' : World), v = .slice (some ⟨g, bp, none⟩) (n - bp) (n - bp) → Sp w0 (rest) w' → K (A.put (some 70) v) w') := Lib.hid hK0
          clear hK0 hN hS hE
          change Oper.wp _ _ A wx K _
          go_step
          exact hK.out _ _ rfl (H)
        · intro x wx A rest hN hS hE H K hK0
          have e9 : A.tmps[9]?.getD undef = .slice (some ⟨g, 0, none⟩) n n := hN (9, .slice (some ⟨g, 0, none⟩) n n) (by simp) (by rfl)
          replace H : Sp w0 (rest) wx := H
          have hK : Hid (∀ (v : Value) (w' : World), v = .slice (some ⟨g, 0, none⟩) n n → Sp w0 (rest) w' → K (A.put (some 71) v) w') := Lib.hid hK0
          clear hK0 hN hS hE
          change Oper.wp _ _ A wx K _
          go_step
          exact hK.out _ _ rfl (H)
        · intro x wx A rest hN hS hE H K hK0
          have e11 : A.tmps[11]?.getD undef = .int .i64 (bp : Int) := hN (11, .int .i64 (bp : Int)) (by simp) (by rfl)
          replace H : Sp w0 (rest) wx := H
          have hK : Hid (∀ (v : Value) (w' : World), v = .int .i64 (bp : Int) → Sp w0 (rest) w' → K (A.put (some 72) v) w') := Lib.hid hK0
          clear hK0 hN hS hE
          change Oper.wp _ _ A wx K _
          go_step
          exact hK.out _ _ rfl (H)
        · intro x wx A rest hN hS hE H K hK0
          have e71 : A.tmps[71]?.getD undef = .slice (some ⟨g, 0, none⟩) n n := ((hS 4 (by decide)).2 71 rfl).trans (hS 4 (by decide)).1
          have e72 : A.tmps[72]?.getD undef = .int .i64 (bp : Int) := ((hS 5 (by decide)).2 72 rfl).trans (hS 5 (by decide)).1
          replace H : Sp w0 (rest) wx := H
          have hK : Hid (∀ (v : Value) (w' : World), v = .slice (some ⟨g, 0, none⟩) bp n → Sp w0 (rest) w' → K (A.put (some 73) v) w') := Lib.hid hK0
          clear hK0 hN hS hE
          change Oper.wp _ _ A wx K _
          go_step
          exact hK.out _ _ rfl (H)
        · intro x wx A rest hN hS hE H K hK0
          have e70 : A.tmps[70]?.getD undef = .slice (some ⟨g, bp, none⟩) (n - bp) (n - bp) := ((hS 3 (by decide)).2 70 rfl).trans (hS 3 (by decide)).1
          have e73 : A.tmps[73]?.getD undef = .slice (some ⟨g, 0, none⟩) bp n := ((hS 6 (by decide)).2 73 rfl).trans (hS 6 (by decide)).1
          replace H : Sp w0 ((RB g n c bp) :: rest) wx := H
          have hK : Hid (∀ (v : Value) (w' : World), v = .int .i64 (k : Int) → Sp w0 ((RB g n c (bp + k)) :: rest) w' → K (A.put (some 74) v) w') := Lib.hid hK0
          clear hK0 hN hS hE
          have hrd := RB.rd H
          have hsrc : ∀ j u, (cells8 (List.replicate k c))[j]? = some u → wx.cell? ((⟨g, 0, none⟩ : Addr).add j) = some u := fun j u hu => by
            obtain ⟨ad2, e2, hc⟩ := hrd (by intro h0; have := congrArg List.length h0; simp [cells8] at this; omega)
            injection e2 with e2
            subst e2
            refine hc j u ?_
            have hj : j < k := by
              have := (List.getElem?_eq_some_iff.1 hu).1
              simpa [cells8] using this
            have := HK.out
            simp only [cells8, List.getElem?_map, List.getElem?_replicate] at hu ⊢
            rw [if_pos hj] at hu
            rw [if_pos (by omega)]
            exact hu
          obtain ⟨w9, hr9, H9⟩ := RB.copy H ⟨g, 0, none⟩ bp n (n - bp) 3 HK.out hsrc
          change Oper.wp _ _ A wx K _
          exact Lib.wp_copy_run wx _ _ 22 22 rfl _ _ (ev e70) (ev e73) hr9 (hK.out _ _ rfl H9)
        · intro x wx A rest hN hS hE H K hK0
          have e67 : A.tmps[67]?.getD undef = .int .i64 (bp : Int) := ((hS 0 (by decide)).2 67 rfl).trans (hS 0 (by decide)).1
          have e74 : A.tmps[74]?.getD undef = .int .i64 (k : Int) := ((hS 7 (by decide)).2 74 rfl).trans (hS 7 (by decide)).1
          replace H : Sp w0 (rest) wx := H
          have hK : Hid (∀ (v : Value) (w' : World), v = .int .i64 (q : Int) → Sp w0 (rest) w' → K (A.put (some 75) v) w') := Lib.hid hK0
          clear hK0 hN hS hE
          change Oper.wp _ _ A wx K _
          go_step
          exact hK.out _ _ rfl (H)
        · intro x wx A rest hN hS hE H K hK0
          have e75 : A.tmps[75]?.getD undef = .int .i64 (q : Int) := ((hS 8 (by decide)).2 75 rfl).trans (hS 8 (by decide)).1
          replace H : Sp w0 (rest) wx := H
          have hK : Hid (∀ (v : Value) (w' : World), v = .int .i64 (q : Int) → Sp w0 (rest) w' → K (A.put (some 10) v) w') := Lib.hid hK0
          clear hK0 hN hS hE
          change Oper.wp _ _ A wx K _
          go_step
          exact hK.out _ _ rfl (H)
      case hend =>
        intro x wx A hA hS H
        replace H : Sp w0 ((RB g n c (bp + k)) :: L) wx := H
        have y9 : x 9 = .int .i64 (q : Int) := hS 9 (by decide)
        clear hS
        simp only [putAll, Act.put, List.setIfInBounds_toArray, List.set_cons_succ, List.set_cons_zero, Nat.reduceAdd] at hA
        subst hA
        rw [y9]
        clear y9
        go_wp2
        go_roundw
        case rel => exact ⟨q, rfl, by have := HQ.out; omega, y4, by rw [← HQ.out]; exact H⟩
        case measure =>
          have := HQ.out
          first | (simp [intOf]; omega) | simp [intOf]
    · have k6 : ¬ (bp : Int) < (n : Int) := by omega
      obtain rfl : bp = n := by omega
      go_wp2_with fail
      go_ret
      exact ⟨g, rfl, H4⟩
end Go.Proofs.Ytdlbhoedmaifpaa
