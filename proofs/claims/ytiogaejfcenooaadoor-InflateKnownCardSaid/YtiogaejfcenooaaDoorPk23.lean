/- A pack of texts: RepI ConcatI InfF InfT OpenRows. -/
import Derived.ChangeSame
import Derived.Deep.Fields
import Derived.Deep.Slices
import Derived.Laws.BitsAllLaws
import Derived.OpenShut
import Derived.ProofKit
import Derived.Test.YtiogaejfcenooaaDoorPk01
import Derived.Test.YtiogaejfcenooaaDoorPk03
import Derived.Test.YtiogaejfcenooaaDoorPk09
import Derived.Test.YtiogaejfcenooaaDoorPk11
import Derived.Test.YtiogaejfcenooaaDoorPk12
import Derived.Test.YtiogaejfcenooaaDoorPk13
import Derived.Test.YtiogaejfcenooaaDoorPk17
import Derived.Test.YtiogaejfcenooaaDoorPk20
import Derived.Test.YtiogaejfcenooaaDoorPk21
import Derived.Test.YtiogaejfcenooaaDoorPk22
namespace Go.Proofs.YtiogaejfcenooaaDoor
set_option linter.unusedVariables false
set_option linter.unusedSimpArgs false
open Go.RowKit
def RI (g n : Nat) (c : Value) (bp : Nat) : Pr := Ex fun cur : Array Value => Ex fun (_ : cur.size = n ∧ bp ≤ n ∧ cur.toList.take bp = List.replicate bp c) => Is g (.cells cur 3 (0, 0))
theorem RI.rd {w0 w : World} {L : List Pr} {g n bp : Nat} {c : Value} (H : Sp w0 (RI g n c bp :: L) w) : Rd w (some ⟨g, 0, none⟩) ((List.replicate bp c)) := by
 obtain ⟨cur, H⟩ := H.unex
 obtain ⟨⟨h1, h2, h3⟩, H⟩ := H.unex
 have hh := H.is_ 0 rfl
 refine fun _ => ⟨_, rfl, fun j u hu => ?_⟩
 have e1 : (Addr.add ⟨g, 0, none⟩ j) = ⟨g, j, none⟩ := by
  unfold Addr.add; split
  ·rename_i h0; subst h0; rfl
  ·simp
 rw [e1]
 have hj : j < bp := by
  have := (List.getElem?_eq_some_iff.1 hu).1
  simpa using this
 rw [← h3, List.getElem?_take_of_lt hj] at hu
 simp [World.cell?, hh]
 simpa using hu
theorem RI.row {w0 w : World} {L : List Pr} {g n : Nat} {c : Value} (H : Sp w0 (RI g n c n :: L) w) (hn : n ≤ maxLen) : Sp w0 (Row 3 1 (.slice (some ⟨g, 0, none⟩) n n) n (List.replicate n c) :: L) w := by
 obtain ⟨cur, H⟩ := H.unex
 obtain ⟨⟨h1, h2, h3⟩, H⟩ := H.unex
 exact H.imp fun p hp => ⟨by simp, .inr ⟨g, n, cur, rfl, hp, Nat.le_refl _, hn, by rw [h1, Nat.mul_one], by rw [Nat.mul_one, h3]⟩⟩
theorem RI.of_row {w0 w : World} {L : List Pr} {ad : Addr} {n : Nat} {c z : Value} (H : Sp w0 (Row 3 1 (.slice (some ad) n n) n (List.replicate n z) :: L) w) : ∃ g, ad = ⟨g, 0, none⟩ ∧ Sp w0 (RI g n c 0 :: L) w := by
 have h := H.owns 0 rfl
 rcases h.2 with ⟨hv, _⟩ | ⟨g, cap, cur, hv, hb, hh, h1, h2, h3, h4⟩
 ·cases hv
 ·injection hv with e1 e2 e3
  injection e1 with e1
  subst e1 e3
  refine ⟨g, rfl, H.imp fun p hp => ?_⟩
  rcases hp.2 with ⟨hv, _⟩ | ⟨g', cap', cur', hv, hb', h1', h2', h3', h4'⟩
  ·cases hv
  ·injection hv with e1 e2 e3
   injection e1 with e1
   injection e1 with e1
   subst e1 e3
   exact ⟨cur', ⟨by rw [h3', Nat.mul_one], Nat.zero_le _, rfl⟩, hb'⟩
theorem RI.copy {w0 w : World} {L : List Pr} {g n bp k : Nat} {c : Value} (H : Sp w0 (RI g n c bp :: L) w) (a : Addr) (sLen sCap dCap : Nat) (ty : TypeId) (hk : k = min sLen (n - bp)) (hc1 : c.oneCell' = true)
  (hsrc : ∀ j u, ((List.replicate k c))[j]? = some u → w.cell? (a.add j) = some u) :
  ∃ w', (Builtin.copy_ #[67, 67] ty #[.slice (some ⟨g, bp, none⟩) (n - bp) dCap, .slice (some a) sLen sCap]).run Tryd.prog w = .ok (.int .i64 (k : Int)) w' ∧ Sp w0 (RI g n c (bp + k) :: L) w' := by
 obtain ⟨i0, hi0, hz0, hz1, hz2⟩ := info_parts infoJ
 obtain ⟨cur, H⟩ := H.unex
 obtain ⟨⟨h1, h2, h3⟩, H⟩ := H.unex
 have hg := H.is_ 0 rfl
 have hl : ((List.replicate k c)).length = k := by simp
 have hr := run_copy_row (P := Tryd.prog) w 67 67 ty 3 g bp (n - bp) dCap a sLen sCap cur 3 ((List.replicate k c)) Tryd.underlying67 (by rw [hi0]; simp [hz1]) hg (by rw [hl]; exact hk) hsrc (by rw [hl]; omega) (fun u hu => by rw [(List.mem_replicate.1 hu).2]; exact hc1)
 rw [hl] at hr
 refine ⟨_, hr, ?_⟩
 rw [setRow_put w g cur _ _ _ hg]
 refine Sp.ex _ (Sp.ex ⟨?_, ?_, ?_⟩ (H.put _))
 ·simp [hl]; omega
 ·omega
 ·show List.take (bp + k) (cur.toList.take bp ++ (List.replicate k c) ++ cur.toList.drop (bp + k)) = _
  have e1 : (cur.toList.take bp ++ (List.replicate k c)).length = bp + k := by
   rw [List.length_append, hl, List.length_take]
   simp only [Array.length_toList]
   omega
  rw [List.take_append_of_le_length (by omega), List.take_of_length_le (by omega), h3, ← List.replicate_append_replicate]
set_option maxRecDepth 100000 in
set_option maxHeartbeats 1000000 in
theorem repeatI_ok (A : Option Addr) (ca : Nat) (c : Value) (n : Nat) {w0 w : World} {L : List Pr} (H : Sp w0 L w) (hb : Ent L (fun w => Rd w A [c])) (hc1 : c.oneCell' = true) (hn1 : 1 ≤ n) (hn : n ≤ 4096) :
  Calls Tryd.prog 116 #[.slice A 1 ca, .int .i64 (n : Int)] w fun e w' => ∃ g, e = .returned (.slice (some ⟨g, 0, none⟩) n n) ∧ Sp w0 (Row 3 1 (.slice (some ⟨g, 0, none⟩) n n) n (List.replicate n c) :: L) w' := by
 obtain ⟨i0, hi0, hz0, hz1, hz2⟩ := info_parts infoJ
 obtain ⟨ad, rfl⟩ : ∃ ad, A = some ad := by
  obtain ⟨ad, e, _⟩ := (hb _ _ H) (by simp)
  exact ⟨ad, e⟩
 have HB := Lib.hid hb
 have k3 : ¬ (n : Int) < 0 := by omega
 have k2 : ¬ (9223372036854775807 : Int) < (n : Int) := by omega
 clear hb
 go_enter Tryd.func116, Tryd.ntmps116
 go_wp2_with fail
 refine (mul_one_ok n (by omega) _).mono ?_
 rintro _ _ ⟨rfl, rfl⟩
 go_wp2_with (at_make; refine wpList_make_sp rfl _ _ _ rfl 3 i0 (.int .i64 0) Tryd.underlying67 hi0 hz0 hz1 rfl n rfl rfl (by rw [hz2]; omega) (by unfold maxLen; omega) H ?_)
 intro a1 w1 H1
 obtain ⟨g, rfl, H2⟩ := RI.of_row (c := c) H1
 have hsrc : ∀ j u, (List.replicate 1 c)[j]? = some u → w1.cell? (ad.add j) = some u := by
  obtain ⟨ad2, e2, hc⟩ := (HB.out _ _ H2.tail) (by simp)
  injection e2 with e2
  rw [e2]
  exact hc
 obtain ⟨w2, hr1, H3⟩ := RI.copy H2 ad 1 ca n 3 (k := 1) (by omega) hc1 hsrc
 rw [Nat.sub_zero] at hr1
 rw [Nat.zero_add] at H3
 clear H1 H2 hsrc
 go_wp2_with (at_builtin; refine Lib.wpList_copy_run _ rfl _ _ 67 67 rfl _ _ rfl rfl hr1 ?_)
 clear hr1
 go_wp2_with fail
 go_loopw [8] (fun bv wr => ∃ bp : Nat, bv = .int .i64 (bp : Int) ∧ 1 ≤ bp ∧ bp ≤ n ∧ Sp w0 (RI g n c bp :: L) wr) (fun bv _ => n - (intOf bv).toNat)
 case atStart => exact ⟨1, rfl, Nat.le_refl _, hn1, H3⟩
 case round =>
  obtain ⟨bp, rfl, hb1, hbn, H4⟩ := hrel
  by_cases hlt : bp < n
  ·have k6 : (bp : Int) < (n : Int) := by omega
   obtain ⟨k, hk⟩ : ∃ k, k = min bp (n - bp) := ⟨_, rfl⟩
   obtain ⟨q, hq⟩ : ∃ q, bp + k = q := ⟨_, rfl⟩
   have y0 : (bp : Int) + (k : Int) = (q : Int) := by omega
   have y1 : ¬ n = bp := by omega
   have y2 : bp ≤ n := by omega
   have y3 : ¬ bp = 0 := by omega
   have y4 : q ≤ n := by omega
   have HK := Lib.hid hk
   have HQ := Lib.hid hq
   have hkq : 1 ≤ k := by omega
   clear hk hq
   go_wp2_with fail
   refine wp_region_sq (L := L) (fun ix vx => ([(· = .int .i64 (bp : Int)), (· = .slice (some ⟨g, 0, none⟩) n n), (· = .int .i64 (bp : Int)), (· = .slice (some ⟨g, bp, none⟩) (n - bp) (n - bp)), (· = .slice (some ⟨g, 0, none⟩) n n), (· = .int .i64 (bp : Int)), (· = .slice (some ⟨g, 0, none⟩) bp n), (· = .int .i64 (k : Int)), (· = .int .i64 (q : Int)), (· = .int .i64 (q : Int))] : List (Value → Prop)).getD ix (fun _ => True) vx)
    (fun ix vx => ([fun _ => [], fun _ => [], fun _ => [], fun _ => [], fun _ => [], fun _ => [], fun _ => [], fun _ => [RI g n c (bp + k)], fun _ => [], fun _ => []] : List (Value → List Pr)).getD ix (fun _ => []) vx) (fun ix => ([[], [], [], [], [], [], [], [RI g n c bp], [], []] : List (List Pr)).getD ix []) 10 48
    [some 38, some 39, some 40, some 41, some 42, some 43, some 44, some 45, some 46, some 8]
    [[], [], [], [1, 2], [], [], [4, 5], [3, 6], [0, 7], [8, 7, 0, 1, 2, 3, 4, 5, 6, 7, 8]]
    [[], [], [], [1, 2], [], [], [4, 5], [1, 2, 3, 4, 5, 6], [0, 1, 2, 3, 4, 5, 6, 7], [0, 1, 2, 3, 4, 5, 6, 7, 8]]
    [[], [], [], [], [], [], [], [], [], []]
    [[], [], [], [], [], [], [], [], [], []]
    [(7, .slice (some ⟨g, 0, none⟩) n n), (8, .int .i64 (bp : Int))]
    (by kernel_rfl) rfl (by decide) (by rfl) rfl (by decide +kernel) (by decide +kernel) (by rfl) rfl rfl (by decide) (by simp) (H4) ?hstep ?hend
   case hstep =>
    refine ⟨?_, ⟨?_, ⟨?_, ⟨?_, ⟨?_, ⟨?_, ⟨?_, ⟨?_, ⟨?_, ⟨?_, trivial⟩⟩⟩⟩⟩⟩⟩⟩⟩⟩
    ·intro x wx A rest hN hS hE H K hK0
     have e8 : A.tmps[8]?.getD undef = .int .i64 (bp : Int) := hN (8, .int .i64 (bp : Int)) (by simp) (by rfl)
     replace H : Sp w0 (rest) wx := H
     have hK : Hid (∀ (v : Value) (w' : World), v = .int .i64 (bp : Int) → Sp w0 (rest) w' → K (A.put (some 38) v) w') := Lib.hid hK0
     clear hK0 hN hS hE
     change Oper.wp _ _ A wx K _
     go_step
     exact hK.out _ _ rfl (H)
    ·intro x wx A rest hN hS hE H K hK0
     have e7 : A.tmps[7]?.getD undef = .slice (some ⟨g, 0, none⟩) n n := hN (7, .slice (some ⟨g, 0, none⟩) n n) (by simp) (by rfl)
     replace H : Sp w0 (rest) wx := H
     have hK : Hid (∀ (v : Value) (w' : World), v = .slice (some ⟨g, 0, none⟩) n n → Sp w0 (rest) w' → K (A.put (some 39) v) w') := Lib.hid hK0
     clear hK0 hN hS hE
     change Oper.wp _ _ A wx K _
     go_step
     exact hK.out _ _ rfl (H)
    ·intro x wx A rest hN hS hE H K hK0
     have e8 : A.tmps[8]?.getD undef = .int .i64 (bp : Int) := hN (8, .int .i64 (bp : Int)) (by simp) (by rfl)
     replace H : Sp w0 (rest) wx := H
     have hK : Hid (∀ (v : Value) (w' : World), v = .int .i64 (bp : Int) → Sp w0 (rest) w' → K (A.put (some 40) v) w') := Lib.hid hK0
     clear hK0 hN hS hE
     change Oper.wp _ _ A wx K _
     go_step
     exact hK.out _ _ rfl (H)
    ·intro x wx A rest hN hS hE H K hK0
     have e39 : A.tmps[39]?.getD undef = .slice (some ⟨g, 0, none⟩) n n := ((hS 1 (by decide)).2 39 rfl).trans (hS 1 (by decide)).1
     have e40 : A.tmps[40]?.getD undef = .int .i64 (bp : Int) := ((hS 2 (by decide)).2 40 rfl).trans (hS 2 (by decide)).1
     replace H : Sp w0 (rest) wx := H
     have hK : Hid (∀ (v : Value) (w' : World), v = .slice (some ⟨g, bp, none⟩) (n - bp) (n - bp) → Sp w0 (rest) w' → K (A.put (some 41) v) w') := Lib.hid hK0
     clear hK0 hN hS hE
     change Oper.wp _ _ A wx K _
     go_step
     exact hK.out _ _ rfl (H)
    ·intro x wx A rest hN hS hE H K hK0
     have e7 : A.tmps[7]?.getD undef = .slice (some ⟨g, 0, none⟩) n n := hN (7, .slice (some ⟨g, 0, none⟩) n n) (by simp) (by rfl)
     replace H : Sp w0 (rest) wx := H
     have hK : Hid (∀ (v : Value) (w' : World), v = .slice (some ⟨g, 0, none⟩) n n → Sp w0 (rest) w' → K (A.put (some 42) v) w') := Lib.hid hK0
     clear hK0 hN hS hE
     change Oper.wp _ _ A wx K _
     go_step
     exact hK.out _ _ rfl (H)
    ·intro x wx A rest hN hS hE H K hK0
     have e8 : A.tmps[8]?.getD undef = .int .i64 (bp : Int) := hN (8, .int .i64 (bp : Int)) (by simp) (by rfl)
     replace H : Sp w0 (rest) wx := H
     have hK : Hid (∀ (v : Value) (w' : World), v = .int .i64 (bp : Int) → Sp w0 (rest) w' → K (A.put (some 43) v) w') := Lib.hid hK0
     clear hK0 hN hS hE
     change Oper.wp _ _ A wx K _
     go_step
     exact hK.out _ _ rfl (H)
    ·intro x wx A rest hN hS hE H K hK0
     have e42 : A.tmps[42]?.getD undef = .slice (some ⟨g, 0, none⟩) n n := ((hS 4 (by decide)).2 42 rfl).trans (hS 4 (by decide)).1
     have e43 : A.tmps[43]?.getD undef = .int .i64 (bp : Int) := ((hS 5 (by decide)).2 43 rfl).trans (hS 5 (by decide)).1
     replace H : Sp w0 (rest) wx := H
     have hK : Hid (∀ (v : Value) (w' : World), v = .slice (some ⟨g, 0, none⟩) bp n → Sp w0 (rest) w' → K (A.put (some 44) v) w') := Lib.hid hK0
     clear hK0 hN hS hE
     change Oper.wp _ _ A wx K _
     go_step
     exact hK.out _ _ rfl (H)
    ·intro x wx A rest hN hS hE H K hK0
     have e41 : A.tmps[41]?.getD undef = .slice (some ⟨g, bp, none⟩) (n - bp) (n - bp) := ((hS 3 (by decide)).2 41 rfl).trans (hS 3 (by decide)).1
     have e44 : A.tmps[44]?.getD undef = .slice (some ⟨g, 0, none⟩) bp n := ((hS 6 (by decide)).2 44 rfl).trans (hS 6 (by decide)).1
     replace H : Sp w0 ((RI g n c bp) :: rest) wx := H
     have hK : Hid (∀ (v : Value) (w' : World), v = .int .i64 (k : Int) → Sp w0 ((RI g n c (bp + k)) :: rest) w' → K (A.put (some 45) v) w') := Lib.hid hK0
     clear hK0 hN hS hE
     have hrd := RI.rd H
     have hsrc : ∀ j u, (List.replicate k c)[j]? = some u → wx.cell? ((⟨g, 0, none⟩ : Addr).add j) = some u := fun j u hu => by
      obtain ⟨ad2, e2, hc⟩ := hrd (by intro h0; have := congrArg List.length h0; simp at this; omega)
      injection e2 with e2
      subst e2
      refine hc j u ?_
      have hj : j < k := by
       have := (List.getElem?_eq_some_iff.1 hu).1
       simpa using this
      have := HK.out
      simp only [List.getElem?_replicate] at hu ⊢
      rw [if_pos hj] at hu
      rw [if_pos (by omega)]
      exact hu
     obtain ⟨w9, hr9, H9⟩ := RI.copy H ⟨g, 0, none⟩ bp n (n - bp) 3 HK.out hc1 hsrc
     change Oper.wp _ _ A wx K _
     exact Lib.wp_copy_run wx _ _ 67 67 rfl _ _ (ev e41) (ev e44) hr9 (hK.out _ _ rfl H9)
    ·intro x wx A rest hN hS hE H K hK0
     have e38 : A.tmps[38]?.getD undef = .int .i64 (bp : Int) := ((hS 0 (by decide)).2 38 rfl).trans (hS 0 (by decide)).1
     have e45 : A.tmps[45]?.getD undef = .int .i64 (k : Int) := ((hS 7 (by decide)).2 45 rfl).trans (hS 7 (by decide)).1
     replace H : Sp w0 (rest) wx := H
     have hK : Hid (∀ (v : Value) (w' : World), v = .int .i64 (q : Int) → Sp w0 (rest) w' → K (A.put (some 46) v) w') := Lib.hid hK0
     clear hK0 hN hS hE
     change Oper.wp _ _ A wx K _
     go_step
     exact hK.out _ _ rfl (H)
    ·intro x wx A rest hN hS hE H K hK0
     have e46 : A.tmps[46]?.getD undef = .int .i64 (q : Int) := ((hS 8 (by decide)).2 46 rfl).trans (hS 8 (by decide)).1
     replace H : Sp w0 (rest) wx := H
     have hK : Hid (∀ (v : Value) (w' : World), v = .int .i64 (q : Int) → Sp w0 (rest) w' → K (A.put (some 8) v) w') := Lib.hid hK0
     clear hK0 hN hS hE
     change Oper.wp _ _ A wx K _
     go_step
     exact hK.out _ _ rfl (H)
   case hend =>
    intro x wx A hA hS H
    replace H : Sp w0 ((RI g n c (bp + k)) :: L) wx := H
    have y9 : x 9 = .int .i64 (q : Int) := hS 9 (by decide)
    clear hS
    simp only [putAll, Act.put, List.setIfInBounds_toArray, List.set_cons_succ, List.set_cons_zero, Nat.reduceAdd] at hA
    subst hA
    rw [y9]
    clear y9
    go_wp2
    go_roundw
    case rel => exact ⟨q, rfl, by have := HQ.out; omega, y4, by rw [← HQ.out]; exact H⟩
    case measure =>
     have := HQ.out
     first | (simp [intOf]; omega) | simp [intOf]
  ·have k6 : ¬ (bp : Int) < (n : Int) := by omega
   obtain rfl : bp = n := by omega
   go_wp2_with fail
   go_ret
   exact ⟨g, rfl, RI.row H4 (by unfold maxLen; omega)⟩
end Go.Proofs.YtiogaejfcenooaaDoor

namespace Go.Proofs.YtiogaejfcenooaaDoor
open Go.RowKit
theorem infoI : (Tryd.prog.info? 3).map (fun i => (i.zero, i.size, i.bytes)) = some (some (.int .i64 0), 1, 8) := by kernel_rfl
set_option maxRecDepth 100000 in
set_option maxHeartbeats 2000000 in
theorem grow_okI (n : Nat) {w0 w : World} {L : List Pr} (H : Sp w0 L w) (hn : n ≤ 1000000000) :
  Calls Tryd.prog 152 #[.slice none 0 0, .int .i64 (n : Int)] w fun e w' => ∃ v, e = .returned v ∧ Sp w0 (Row 3 1 v 0 [] :: L) w' := by
 obtain ⟨i0, hi, hz0, hz1, hz2⟩ := info_parts infoI
 by_cases h0 : 0 < n
 ·have k1 : (0 : Int) < (n : Int) := by omega
  go_enter Tryd.func152, Tryd.ntmps152
  go_wp2_with (at_builtin; refine wpList_zeros_sp rfl _ _ 67 3 rfl 3 i0 (.int .i64 0) 1 8 Tryd.underlying67 Tryd.underlying3 hi hz0 hz1 hz2 rfl (by decide) n rfl rfl h0 hn (by decide) H ?_)
  intro g c w2 h1 h2 H2
  have H3 := H2.rowCut 0 (Nat.zero_le _)
  rw [Nat.zero_mul, List.take_zero] at H3
  have k2 : (0 : Int) ≤ (c : Int) := by omega
  go_wp2_with fail
  go_ret
  exact ⟨_, rfl, H3⟩
 ·have k1 : ¬ (0 : Int) < (n : Int) := by omega
  obtain rfl : n = 0 := by omega
  go_enter Tryd.func152, Tryd.ntmps152
  go_wp2_with fail
  go_ret
  exact ⟨_, rfl, H.rowNil _ _⟩
set_option maxRecDepth 100000 in
set_option maxHeartbeats 2000000 in
theorem concat_okI (ad : Addr) (k c : Nat) (qs : List Part) {w0 w : World} {L : List Pr} (H : Sp w0 L w) (hk : qs.length = k) (hb : Ent L (fun w => Rd w (some ad) (qs.map Part.val))) (hq : ∀ q ∈ qs, q.Ok L 1) (hs : Part.sum qs ≤ 1000000) (hkm : k ≤ 1000000) :
  Calls Tryd.prog 115 #[.slice (some ad) k c] w fun e w' => ∃ v, e = .returned v ∧ Sp w0 (Row 3 1 v (Part.sum qs) (Part.cat qs) :: L) w' := by
 obtain ⟨i0, hi, hz0, hz1, hz2⟩ := info_parts infoI
 obtain ⟨N, hN⟩ : ∃ N, Part.sum qs = N := ⟨_, rfl⟩
 have hle : ∀ i, Part.sum (qs.take i) ≤ N := fun i => by rw [← hN]; exact Part.sum_take qs i
 have HK := Lib.hid hk
 have HB := Lib.hid hb
 have HQ := Lib.hid hq
 have HN := Lib.hid hN
 have HLE := Lib.hid hle
 have hNl : N ≤ 1000000 := by omega
 rw [hN]
 have hget : ∀ i, i < k → ∃ q, qs[i]? = some q ∧ q.Ok L 1 ∧ qs.take (i + 1) = qs.take i ++ [q] ∧ ∀ w', Sp w0 L w' → w'.cell? (ad.add i) = some (.slice q.A q.n q.c) := fun i hi => by
  have hil : i < qs.length := by rw [hk]; exact hi
  refine ⟨qs[i], List.getElem?_eq_getElem hil, hq _ (List.getElem_mem hil), List.take_succ_eq_append_getElem hil, fun w' H' => ?_⟩
  obtain ⟨ad', e, hc⟩ := hb _ _ H' (by intro h; have := congrArg List.length h; simp at this; subst this; simp at hil)
  injection e with e
  subst e
  refine hc i _ ?_
  rw [List.getElem?_map, List.getElem?_eq_getElem hil]; rfl
 have HG := Lib.hid hget
 clear hk hb hq hN hle hs hget
 go_enter Tryd.func115, Tryd.ntmps115
 go_wp2_with fail
 go_loopw [3, 11] (fun sv iv wr => ∃ (i s : Nat), iv = .int .i64 (i : Int) ∧ sv = .int .i64 (s : Int) ∧ i ≤ k ∧ Hid (Part.sum (qs.take i) = s) ∧ Sp w0 L wr) (fun _ iv _ => k - (intOf iv).toNat)
 case atStart => exact ⟨0, 0, rfl, rfl, Nat.zero_le _, Lib.hid rfl, H⟩
 case round =>
  clear H
  obtain ⟨i, s, rfl, rfl, hik, HS, H⟩ := hrel
  have hsN : s ≤ N := by rw [← HS.out]; exact HLE.out i
  by_cases hin : i < k
  ·have k1 : (i : Int) < (k : Int) := by omega
   obtain ⟨q, h1, h2, h3, h4⟩ := HG.out i hin
   have hc := h4 _ H
   have hs2 : Part.sum (qs.take (i + 1)) = s + q.n := by rw [h3, Part.sum_snoc, HS.out]
   have hs3 : s + q.n ≤ N := by rw [← hs2]; exact HLE.out _
   have HS2 := Lib.hid hs2
   obtain ⟨qA, qn, qc, qx⟩ := q
   simp only at hc HS2 hs3
   have k2 : ¬ (s : Int) + (qn : Int) < 0 := by omega
   clear h1 h2 h3 h4 hs2
   go_wp2_with fail
   go_roundw
   case rel => exact ⟨i + 1, s + qn, by go_num, by go_num, by omega, HS2, H⟩
   case measure => first | (simp [intOf]; omega) | simp [intOf]
  ·have k1 : ¬ (i : Int) < (k : Int) := by omega
   obtain rfl : i = k := by omega
   have hsN2 : s = N := by rw [← HS.out, ← HN.out, List.take_of_length_le (by rw [HK.out]; exact Nat.le_refl _)]
   subst hsN2
   have hg := grow_okI s H (by omega)
   have HGR := Lib.hid hg
   clear hg
   go_wp2_with fail
   refine HGR.out.mono ?_
   rintro _ w2 ⟨v, rfl, H2⟩
   clear HGR H
   go_wp2_with fail
   go_loopw [6, 27] (fun vv jv wr => ∃ (j : Nat), jv = .int .i64 (j : Int) ∧ j ≤ i ∧ Sp w0 (Row 3 1 vv (Part.sum (qs.take j)) (Part.cat (qs.take j)) :: L) wr) (fun _ jv _ => i - (intOf jv).toNat)
   case atStart => exact ⟨0, rfl, Nat.zero_le _, H2⟩
   case round =>
    rename_i v0 _
    clear H2
    rename_i u6 u27
    obtain ⟨j, rfl, hjk, H⟩ := hrel
    obtain ⟨r, hr⟩ : ∃ r, Part.sum (qs.take j) = r := ⟨_, rfl⟩
    obtain ⟨X, hX⟩ : ∃ X, Part.cat (qs.take j) = X := ⟨_, rfl⟩
    have hrN : r ≤ s := by rw [← hr]; exact HLE.out j
    rw [hr, hX] at H
    obtain ⟨VA, Vc, hvf, _, _⟩ := Row.form H 0 rfl
    subst hvf
    by_cases hjn : j < i
    ·have k1 : (j : Int) < (i : Int) := by omega
     obtain ⟨q, h1, h2, h3, h4⟩ := HG.out j hjn
     have hc := h4 _ H.tail
     have hs2 : Part.sum (qs.take (j + 1)) = r + q.n := by rw [h3, Part.sum_snoc, hr]
     have hs3 : r + q.n ≤ s := by rw [← hs2]; exact HLE.out _
     have hx2 : Part.cat (qs.take (j + 1)) = X ++ q.xs := by rw [h3, Part.cat_snoc, hX]
     have HS2 := Lib.hid hs2
     have HX2 := Lib.hid hx2
     have HO := Lib.hid h2
     obtain ⟨qA, qn, qc, qx⟩ := q
     simp only at hc HS2 HX2 hs3
     clear h1 h2 h3 h4 hs2 hx2 hr hX
     go_wp2_with (at_builtin; refine wpList_append_sp rfl _ _ 67 rfl 3 i0 (.int .i64 0) 1 8 Tryd.underlying67 hi hz0 hz1 hz2 rfl (by decide) _ r X rfl H qA qn qc qx rfl HO.out.1 (HO.out.2.1 _ _ H.tail) HO.out.2.2 (by unfold maxLen; omega) (by omega) ?_)
     intro v9 w9 H9 _
     go_wp2_with fail
     go_roundw
     case rel => exact ⟨j + 1, by go_num, by omega, by rw [HS2.out, HX2.out]; exact H9⟩
     case measure => first | (simp [intOf]; omega) | simp [intOf]
    ·have k1 : ¬ (j : Int) < (i : Int) := by omega
     obtain rfl : j = i := by omega
     have e1 : qs.take j = qs := List.take_of_length_le (by rw [HK.out]; exact Nat.le_refl _)
     rw [e1, HN.out] at hr
     rw [e1] at hX
     have HR := Lib.hid hr
     have HX := Lib.hid hX
     clear hr hX e1
     go_wp2_with fail
     go_ret
     exact ⟨_, rfl, by rw [HX.out, HR.out]; exact H⟩
end Go.Proofs.YtiogaejfcenooaaDoor

namespace Go.Proofs.YtiogaejfcenooaaDoor
set_option linter.unusedVariables false
set_option linter.unusedSimpArgs false
open Go.RowKit
theorem cellsN_cast (m : List Nat) : cells64 (castI m) = cellsN m := by
 unfold cells64 castI cellsN
 rw [List.map_map]; rfl
set_option maxRecDepth 100000 in
theorem xbook_yes (A : Option Addr) (n c : Nat) (m : List Nat) {w0 w : World} {L : List Pr} (H : Sp w0 L w) (hn : n = m.length) (hb : Ent L fun w => Rd w A (cellsN m)) (hk : PI.book m = true) :
  Calls Tryd.prog 117 #[.slice A n c] w fun e w' => ∃ g, e = .returned (.pointer (some ⟨g, 0, none⟩)) ∧ Sp w0 (Bok g m :: L) w' := by
 have hb' : Ent L fun w => Rd w A (cells64 (castI m)) := by rw [cellsN_cast]; exact hb
 have hn' : n = (castI m).length := by unfold castI; rw [List.length_map]; exact hn
 have h1 := new_any_yes A n c (castI m) H hn' hb' hk
 rw [PI.PH.nat_cast, PI.mostN_of] at h1
 have H1 := Lib.hid h1
 clear h1 hb hb' hn' hk hn
 go_enter Tryd.func117, Tryd.ntmps117
 go_wp2_with fail
 refine H1.out.mono ?_
 rintro _ w1 ⟨g, v, rfl, H2⟩
 go_wp2
 go_ret
 exact ⟨g, rfl, Sp.ex v H2.star⟩
set_option maxRecDepth 100000 in
theorem xbook_no (A : Option Addr) (n c : Nat) (m : List Nat) {w0 w : World} {L : List Pr} (H : Sp w0 L w) (hn : n = m.length) (hb : Ent L fun w => Rd w A (cellsN m)) (hl : n ≤ 1000) (hk : PI.book m = false) :
  Calls Tryd.prog 117 #[.slice A n c] w fun e w' => e = .panicked (pan 20) ∧ Sp w0 L w' := by
 have hb' : Ent L fun w => Rd w A (cells64 (castI m)) := by rw [cellsN_cast]; exact hb
 have hn' : n = (castI m).length := by unfold castI; rw [List.length_map]; exact hn
 have h1 := new_any_no A n c (castI m) H hn' hb' (by omega) hk
 have he : PH.enI (castI m) = 1 ∨ PH.enI (castI m) = 20 := by
  unfold PH.enI
  split
  ·exact .inr rfl
  ·exact .inl rfl
 obtain ⟨x, hx⟩ : ∃ x, PH.enI (castI m) = x := ⟨_, rfl⟩
 rw [hx] at h1 he
 have H1 := Lib.hid h1
 have n1 : ¬ x = 0 := by omega
 have n2 : (x != 0) = true := by simpa using n1
 clear h1 hb hb' hn' hk he hx hn
 go_enter Tryd.func117, Tryd.ntmps117
 go_wp2_with fail
 refine H1.out.mono ?_
 rintro _ w1 ⟨rfl, H2⟩
 go_wp2
 exact ⟨rfl, rfl, H2⟩
theorem row_ent {e : TypeId} {V : Option Addr} {n kk : Nat} {xs : List Value} {M : List Pr} (j : Nat) (hj : M[j]? = some (Row e 1 (.slice V n kk) n xs)) : Ent M fun w => Rd w V xs := fun _ _ H => by
 obtain ⟨A9, c9, e9, hr9, _, _⟩ := H.row_rd j hj
 injection e9 with e9
 subst e9
 exact hr9
theorem fixed_book : PI.book PI.fixedL = true ∧ PI.book PI.fixedD = true := by decide +kernel
theorem fixed_len : PI.fixedL.length = 288 ∧ PI.fixedD.length = 32 := by decide +kernel
set_option maxRecDepth 100000 in
set_option maxHeartbeats 2000000 in
theorem xfixed_ok {w0 w : World} {L : List Pr} (H : Sp w0 L w) :
    Calls Tryd.prog 73 #[] w fun e w' => ∃ g1 g2, e = .returned (.tuple #[.pointer (some ⟨g1, 0, none⟩), .pointer (some ⟨g2, 0, none⟩)]) ∧ Sp w0 (Bok g2 PI.fixedD :: Bok g1 PI.fixedL :: L) w' := by
  have H1 := H.newBk [.int .i64 8] 3
  go_enter Tryd.func73, Tryd.ntmps73
  go_wp2_with fail
  refine (repeatI_ok _ 1 (.int .i64 8) 144 H1 (fun _ _ H => Rd.of_blk (H.blk 0 rfl)) rfl (by omega) (by omega)).mono ?_
  rintro _ w1 ⟨ga, rfl, H2⟩
  replace H2 := H2.pick 2 [0]
  clear H1
  have H3 := H2.newBk [.int .i64 9] 3
  go_wp2_with fail
  refine (repeatI_ok _ 1 (.int .i64 9) 112 H3 (fun _ _ H => Rd.of_blk (H.blk 0 rfl)) rfl (by omega) (by omega)).mono ?_
  rintro _ w2 ⟨gb, rfl, H4⟩
  replace H4 := H4.pick 2 [0]
  clear H3 H2
  have H5 := H4.newBk [.int .i64 7] 3
  go_wp2_with fail
  refine (repeatI_ok _ 1 (.int .i64 7) 24 H5 (fun _ _ H => Rd.of_blk (H.blk 0 rfl)) rfl (by omega) (by omega)).mono ?_
  rintro _ w3 ⟨gc, rfl, H6⟩
  replace H6 := H6.pick 2 [0]
  clear H5 H4
  have H7 := H6.newBk [.int .i64 8] 3
  go_wp2_with fail
  refine (repeatI_ok _ 1 (.int .i64 8) 8 H7 (fun _ _ H => Rd.of_blk (H.blk 0 rfl)) rfl (by omega) (by omega)).mono ?_
  rintro _ w4 ⟨gd, rfl, H8⟩
  replace H8 := H8.pick 2 [0]
  clear H7 H6
  have H9 := H8.newBk [.slice (some ⟨ga, 0, none⟩) 144 144, .slice (some ⟨gb, 0, none⟩) 112 112, .slice (some ⟨gc, 0, none⟩) 24 24, .slice (some ⟨gd, 0, none⟩) 8 8] 67
  have hc := concat_okI ⟨w4.heap.size, 0, none⟩ 4 4 [⟨some ⟨ga, 0, none⟩, 144, 144, List.replicate 144 (.int .i64 8)⟩, ⟨some ⟨gb, 0, none⟩, 112, 112, List.replicate 112 (.int .i64 9)⟩, ⟨some ⟨gc, 0, none⟩, 24, 24, List.replicate 24 (.int .i64 7)⟩, ⟨some ⟨gd, 0, none⟩, 8, 8, List.replicate 8 (.int .i64 8)⟩] H9 rfl (fun _ _ H => Rd.of_blk (H.blk 0 rfl))
    (fun q hq => by
      have one : ∀ (n : Nat) (v : Int), ∀ u ∈ List.replicate n (Value.int .i64 v), u.oneCell' = true := fun n v u hu => by rw [(List.mem_replicate.1 hu).2]; rfl
      rcases List.mem_cons.1 hq with rfl | hq
      · exact ⟨by simp only [List.length_replicate], row_ent 4 rfl, one _ _⟩
      rcases List.mem_cons.1 hq with rfl | hq
      · exact ⟨by simp only [List.length_replicate], row_ent 3 rfl, one _ _⟩
      rcases List.mem_cons.1 hq with rfl | hq
      · exact ⟨by simp only [List.length_replicate], row_ent 2 rfl, one _ _⟩
      · rw [List.mem_singleton.1 hq]
        exact ⟨by simp only [List.length_replicate], row_ent 1 rfl, one _ _⟩) (by simp [Part.sum]) (by omega)
  have hsum : Part.sum [⟨some ⟨ga, 0, none⟩, 144, 144, List.replicate 144 (.int .i64 8)⟩, ⟨some ⟨gb, 0, none⟩, 112, 112, List.replicate 112 (.int .i64 9)⟩, ⟨some ⟨gc, 0, none⟩, 24, 24, List.replicate 24 (.int .i64 7)⟩, ⟨some ⟨gd, 0, none⟩, 8, 8, List.replicate 8 (.int .i64 8)⟩] = 288 := rfl
  have hcat : Part.cat [⟨some ⟨ga, 0, none⟩, 144, 144, List.replicate 144 (.int .i64 8)⟩, ⟨some ⟨gb, 0, none⟩, 112, 112, List.replicate 112 (.int .i64 9)⟩, ⟨some ⟨gc, 0, none⟩, 24, 24, List.replicate 24 (.int .i64 7)⟩, ⟨some ⟨gd, 0, none⟩, 8, 8, List.replicate 8 (.int .i64 8)⟩] = cellsN PI.fixedL := by
    unfold Part.cat PI.fixedL cellsN
    simp only [List.flatMap_cons, List.flatMap_nil, List.map_append, List.map_replicate, List.append_nil, List.append_assoc]
    rfl
  rw [hsum, hcat] at hc
  have HC := Lib.hid hc
  clear hc hsum hcat H8
  go_wp2_with fail
  refine HC.out.mono ?_
  rintro _ w5 ⟨vl, rfl, H10⟩
  obtain ⟨VA, vc, rfl, _, _⟩ := Row.form H10 0 rfl
  have hb := xbook_yes VA 288 vc PI.fixedL H10 fixed_len.1.symm (row_ent 0 rfl) fixed_book.1
  have HB := Lib.hid hb
  clear hb HC H9
  go_wp2_with fail
  refine HB.out.mono ?_
  rintro _ w6 ⟨g1, rfl, H11⟩
  have H12 := H11.newBk [.int .i64 5] 3
  clear HB H10
  go_wp2_with fail
  refine (repeatI_ok _ 1 (.int .i64 5) 32 H12 (fun _ _ H => Rd.of_blk (H.blk 0 rfl)) rfl (by omega) (by omega)).mono ?_
  rintro _ w7 ⟨ge, rfl, H13⟩
  have hrep : List.replicate 32 (Value.int .i64 5) = cellsN PI.fixedD := by unfold cellsN PI.fixedD; rw [List.map_replicate]; rfl
  rw [hrep] at H13
  have hb := xbook_yes (some ⟨ge, 0, none⟩) 32 32 PI.fixedD H13 fixed_len.2.symm (row_ent 0 rfl) fixed_book.2
  clear hrep
  have HB := Lib.hid hb
  clear hb H11 H12
  go_wp2_with fail
  refine HB.out.mono ?_
  rintro _ w8 ⟨g2, rfl, H14⟩
  go_wp2_with fail
  go_ret2
  exact ⟨g1, g2, rfl, H14.pick 10 [0, 3]⟩
end Go.Proofs.YtiogaejfcenooaaDoor

namespace Go.Proofs.YtiogaejfcenooaaDoor
set_option linter.unusedVariables false
set_option linter.unusedSimpArgs false
open Go.RowKit
theorem wp_make_sp {P : Program} {w0 w : World} {L : List Pr} {o : Oper} {a : Act} {K : Act → World → Prop} {Q : Exit → Act → World → Prop} (l c : Operand) (t : TypeId) (hop : o.op = Op.makeSlice t l c)
  (e : TypeId) (i : TypeInfo) (z : Value) (h1 : P.underlying t = some (.slice e)) (h2 : P.info? e = some i) (h3 : i.zero = some z) (h4 : i.size = 1) (hz1 : z.cells = #[z])
  (n : Nat) (hl : a.eval l = .int .i64 (n : Int)) (hc : a.eval c = .int .i64 (n : Int)) (b2 : i.bytes * n ≤ 281474976710656) (b3 : n ≤ maxLen) (H : Sp w0 L w)
  (hK : ∀ (ad : Addr) w', Sp w0 (Row e 1 (.slice (some ad) n n) n (List.replicate n z) :: L) w' → K (a.put o.dst (.slice (some ad) n n)) w') :
  o.wp P a w K Q := by
 have hrun := run_make (P := P) w t e i z h1 h2 h3 .i64 .i64 (n : Int) (n : Int) (by omega) (Int.le_refl _) (by rw [← Int.natCast_mul]; omega) (by have h3 := b3; unfold maxLen at h3; omega)
 rw [hz1, h4, Nat.mul_one, show ((n : Int)).toNat = n from rfl] at hrun
 have hH := (H.newBk (List.replicate n z) e).bkRow 1 n (by rw [List.length_replicate, Nat.mul_one]) b3
 unfold Oper.wp
 simp [execOp, hop, hl, hc, hrun, Result.andThen]
 refine hK _ _ ?_
 have e2 : madeCells #[z] n = (List.replicate n z).toArray := by rw [← toList_madeCells_one]
 rw [e2]
 exact hH
set_option maxRecDepth 100000 in
set_option maxHeartbeats 2000000 in
theorem pcodes_ok (A : Option Addr) (n c : Nat) (m : List Nat) {w0 w : World} {L : List Pr} (H : Sp w0 L w) (hn : n = m.length) (hb : Ent L fun w => Rd w A (cellsN m)) (hl : n ≤ 1024) (h15 : ∀ x ∈ m, x ≤ 15) (hs : PH.sum m ≤ 32768) :
  Calls Tryd.prog 42 #[.slice A n c] w fun e w' => ∃ v, e = .returned v ∧ Sp w0 (Row 63 1 v n (rowU (PH.codeAt m) n) :: L) w' := by
 have HQ := Lib.hid (codes_ok A n c m H hn (by rw [cellsN_cast]; exact hb) hl h15 hs)
 clear hb hn hs h15
 go_enter Tryd.func42, Tryd.ntmps42
 go_wp2_with fail
 refine HQ.out.mono ?_
 rintro _ w1 ⟨v, rfl, H1⟩
 obtain ⟨V, vc, rfl, _, _⟩ := Row.form H1 0 rfl
 clear HQ
 have k1 : ((n : Int) != (n : Int)) = false := by simp
 go_wp2_with fail
 go_ret
 exact ⟨_, rfl, H1⟩
set_option maxRecDepth 100000 in
set_option maxHeartbeats 2000000 in
theorem plens_ok (A : Option Addr) (n c : Nat) (cs : List Nat) (lm : Nat) {w0 w : World} {L : List Pr} (H : Sp w0 L w) (hn : n = cs.length) (hb : Ent L fun w => Rd w A (cellsN cs)) (hl : n ≤ 1024) (h1 : 1 ≤ lm) (h15 : lm ≤ 15) (hc : ∀ x ∈ cs, x ≤ 4294967296) (hk : n ≤ 2 ^ lm) :
  Calls Tryd.prog 28 #[.slice A n c, .int .i64 (lm : Int)] w fun e w' => ∃ v, e = .returned v ∧ Sp w0 (Row 3 1 v n (cellsN (PL.lens cs lm)) :: L) w' := by
 have HQ := Lib.hid (lengths_ok A n c cs lm H hn (by have e : cells64 (castN cs) = cellsN cs := cellsN_cast cs; rw [e]; exact hb) hl h1 h15 hc (Nat.le_trans (PI.items_le _) (by omega)))
 clear hb hn hc hk
 go_enter Tryd.func28, Tryd.ntmps28
 go_wp2_with fail
 refine HQ.out.mono ?_
 rintro _ w1 ⟨v, rfl, H1⟩
 obtain ⟨V, vc, rfl, _, _⟩ := Row.form H1 0 rfl
 clear HQ
 have k1 : ((n : Int) != (n : Int)) = false := by simp
 go_wp2_with fail
 go_ret
 exact ⟨_, rfl, H1⟩
def rowF (f : Nat → Nat) (n i : Nat) : List Nat := (List.range n).map fun j => if j < i then f j else 0
theorem rowF_set (f : Nat → Nat) (n i : Nat) (h : i < n) : (cellsN (rowF f n i)).set i (.int .i64 (f i : Int)) = cellsN (rowF f n (i + 1)) := by
 refine List.ext_getElem (by simp [cellsN, rowF]) fun j h1 h2 => ?_
 rw [List.getElem_set]
 simp only [cellsN, rowF, List.getElem_map, List.getElem_range]
 by_cases e : i = j
 ·subst e; rw [if_pos rfl, if_pos (by omega)]
 ·rw [if_neg e]
  by_cases h3 : j < i
  ·rw [if_pos h3, if_pos (by omega)]
  ·rw [if_neg h3, if_neg (by omega)]
theorem rowF_zero (f : Nat → Nat) (n : Nat) : List.replicate n (Value.int .i64 0) = cellsN (rowF f n 0) := by
 refine List.ext_getElem (by simp [cellsN, rowF]) fun j h1 h2 => ?_
 simp [cellsN, rowF]
theorem rowF_all (f : Nat → Nat) (n : Nat) : rowF f n n = (List.range n).map f := by
 refine List.map_congr_left fun j hj => ?_
 rw [if_pos (List.mem_range.1 hj)]
def f8 (j : Nat) : Nat := if j < 144 then 8 else if j < 256 then 9 else if j < 280 then 7 else 8
def f5 (_ : Nat) : Nat := 5
theorem f8_all : (List.range 288).map f8 = PI.fixedL := by decide +kernel
theorem f5_all : (List.range 32).map f5 = PI.fixedD := by decide +kernel
set_option maxRecDepth 100000 in
set_option maxHeartbeats 8000000 in
theorem pfixed_ok {w0 w : World} {L : List Pr} (H : Sp w0 L w) :
  Calls Tryd.prog 25 #[] w fun e w' => ∃ v1 v2, e = .returned (.tuple #[v1, v2]) ∧ Sp w0 (Row 3 1 v1 288 (cellsN PI.fixedL) :: Row 3 1 v2 32 (cellsN PI.fixedD) :: L) w' := by
 obtain ⟨i0, hi, hz0, hz1, hz2⟩ := info_parts infoJ
 go_enter Tryd.func25, Tryd.ntmps25
 go_wp2_with fail
 refine wp_region_sp (L := L) (fun ix vx => ([(fun u => ∃ ad, u = .slice (some ad) 288 288), (fun u => ∃ ad, u = .slice (some ad) 32 32), (fun u => ∃ ad, u = .slice (some ad) 288 288), (fun u => ∃ ad, u = .slice (some ad) 32 32)] : List (Value → Prop)).getD ix (fun _ => True) vx)
  (fun ix vx => ([fun u => [Row 3 1 u 288 (List.replicate 288 (.int .i64 0))], fun u => [Row 3 1 u 32 (List.replicate 32 (.int .i64 0))], fun u => [Row 3 1 u 288 (List.replicate 288 (.int .i64 0))], fun u => [Row 3 1 u 32 (List.replicate 32 (.int .i64 0))]] : List (Value → List Pr)).getD ix (fun _ => []) vx) (fun ix => ([[], [], [], []] : List (List Pr)).getD ix []) 4 46
  [some 6, some 7, some 2, some 3]
  [[], [], [0, 0], [1, 2, 0, 1, 2]]
  [[], [], [0], [0, 1, 2]]
  [[], [], [0], [1]]
  [[], [], [], []]
  []
  (by kernel_rfl) rfl (by decide) (by rfl) rfl (by decide +kernel) (by decide +kernel) (by rfl) rfl rfl (by decide) (by simp) (by rfl) (H) ?hstep ?hend
 case hstep =>
  refine ⟨?_, ⟨?_, ⟨?_, ⟨?_, trivial⟩⟩⟩⟩
  ·intro x wx A rest hN hS hE H K hK0
   replace H : Sp w0 (rest) wx := H
   have hK : Hid (∀ (v : Value) (w' : World), (fun u => ∃ ad, u = .slice (some ad) 288 288) v → Sp w0 ((Row 3 1 v 288 (List.replicate 288 (.int .i64 0))) :: rest) w' → K (A.put (some 6) v) w') := Lib.hid hK0
   clear hK0 hN hS hE
   change Oper.wp _ _ A wx K _
   refine wp_make_sp _ _ 67 rfl 3 i0 (.int .i64 0) Tryd.underlying67 hi hz0 hz1 rfl 288 rfl rfl (by rw [hz2]; omega) (by unfold maxLen; omega) H ?_
   intro ad w9 H9
   exact hK.out _ _ ⟨ad, rfl⟩ H9
  ·intro x wx A rest hN hS hE H K hK0
   replace H : Sp w0 (rest) wx := H
   have hK : Hid (∀ (v : Value) (w' : World), (fun u => ∃ ad, u = .slice (some ad) 32 32) v → Sp w0 ((Row 3 1 v 32 (List.replicate 32 (.int .i64 0))) :: rest) w' → K (A.put (some 7) v) w') := Lib.hid hK0
   clear hK0 hN hS hE
   change Oper.wp _ _ A wx K _
   refine wp_make_sp _ _ 67 rfl 3 i0 (.int .i64 0) Tryd.underlying67 hi hz0 hz1 rfl 32 rfl rfl (by rw [hz2]; omega) (by unfold maxLen; omega) H ?_
   intro ad w9 H9
   exact hK.out _ _ ⟨ad, rfl⟩ H9
  ·intro x wx A rest hN hS hE H K hK0
   have q6 := (hS 0 (by decide)).1
   have e6 : A.tmps[6]?.getD undef = x 0 := (hS 0 (by decide)).2 6 rfl
   replace H : Sp w0 ((Row 3 1 (x 0) 288 (List.replicate 288 (.int .i64 0))) :: rest) wx := H
   have hK : Hid (∀ (v : Value) (w' : World), (fun u => ∃ ad, u = .slice (some ad) 288 288) v → Sp w0 ((Row 3 1 v 288 (List.replicate 288 (.int .i64 0))) :: rest) w' → K (A.put (some 2) v) w') := Lib.hid hK0
   clear hK0 hN hS hE
   obtain ⟨ad, ea⟩ := q6
   rw [ea] at H e6
   change Oper.wp _ _ A wx K _
   go_step
   exact hK.out _ _ ⟨ad, rfl⟩ H
  ·intro x wx A rest hN hS hE H K hK0
   have q7 := (hS 1 (by decide)).1
   have e7 : A.tmps[7]?.getD undef = x 1 := (hS 1 (by decide)).2 7 rfl
   replace H : Sp w0 ((Row 3 1 (x 1) 32 (List.replicate 32 (.int .i64 0))) :: rest) wx := H
   have hK : Hid (∀ (v : Value) (w' : World), (fun u => ∃ ad, u = .slice (some ad) 32 32) v → Sp w0 ((Row 3 1 v 32 (List.replicate 32 (.int .i64 0))) :: rest) w' → K (A.put (some 3) v) w') := Lib.hid hK0
   clear hK0 hN hS hE
   obtain ⟨ad, ea⟩ := q7
   rw [ea] at H e7
   change Oper.wp _ _ A wx K _
   go_step
   exact hK.out _ _ ⟨ad, rfl⟩ H
 case hend =>
  intro x wx A hA hS H
  replace H : Sp w0 ((Row 3 1 (x 2) 288 (List.replicate 288 (.int .i64 0))) :: (Row 3 1 (x 3) 32 (List.replicate 32 (.int .i64 0))) :: L) wx := H
  have y2 : ∃ ad, (x 2) = .slice (some ad) 288 288 := hS 2 (by decide)
  have y3 : ∃ ad, (x 3) = .slice (some ad) 32 32 := hS 3 (by decide)
  clear hS
  simp only [putAll, Act.put, List.setIfInBounds_toArray, List.set_cons_succ, List.set_cons_zero, Nat.reduceAdd] at hA
  subst hA
  obtain ⟨a1, ea1⟩ := y2
  obtain ⟨a2, ea2⟩ := y3
  rw [ea1, ea2] at H ⊢
  have HX := Lib.hid H
  clear H ea1 ea2
  go_wp2_with fail
  go_loopw [4, 10] (fun _ iv wr => ∃ i : Nat, iv = .int .i64 (i : Int) ∧ i ≤ 288 ∧ Sp w0 (Row 3 1 (.slice (some a1) 288 288) 288 (cellsN (rowF f8 288 i)) :: Row 3 1 (.slice (some a2) 32 32) 32 (List.replicate 32 (.int .i64 0)) :: L) wr) (fun _ iv _ => 288 - (intOf iv).toNat)
  case atStart => exact ⟨0, rfl, Nat.zero_le _, by rw [← rowF_zero]; exact HX.out⟩
  case round =>
   obtain ⟨i, rfl, hi288, H1⟩ := hrel
   clear HX
   by_cases hlt : i < 288
   ·have k1 : (i : Int) < 288 := by omega
    obtain ⟨ad9, c9, e9, _, ccell, cfrz, hset⟩ := H1.rowSet hlt
    injection e9 with e9 _ _
    injection e9 with e9
    subst e9
    have H2 := hset (.int .i64 8)
    obtain ⟨ad9, c9, e9, _, ccell2, cfrz2, hset2⟩ := H2.rowSet hlt
    injection e9 with e9 _ _
    injection e9 with e9
    subst e9
    have hr := rowF_set f8 288 i hlt
    have HR := Lib.hid hr
    rw [List.getElem?_set, if_pos rfl, if_pos (by simp [cellsN, rowF]; omega)] at ccell2
    have hc1 : (wr.cell? (a1.add i)) = some (.int .i64 0) := by
     rw [ccell]; simp [cellsN, rowF, hlt]
    have HH2 := Lib.hid H2
    have HS2 := Lib.hid hset2
    clear hset hset2 hr ccell H2
    by_cases h1 : i < 144
    ·have k2 : ¬ (i : Int) ≥ 144 := by omega
     have k3 : ¬ (i : Int) ≥ 256 := by omega
     go_wp2_with fail
     go_roundw
     case rel =>
      refine ⟨i + 1, by go_num, by omega, ?_⟩
      have h := HR.out
      rw [show f8 i = 8 by simp [f8, h1]] at h
      rw [← h]
      exact HH2.out
     case measure => first | (simp [intOf]; omega) | simp [intOf]
    ·have k2 : (i : Int) ≥ 144 := by omega
     by_cases h2 : i < 256
     ·have k3 : (i : Int) < 256 := by omega
      have k4 : ¬ (i : Int) ≥ 256 := by omega
      go_wp2_with fail
      go_roundw
      case rel =>
       refine ⟨i + 1, by go_num, by omega, ?_⟩
       have h := HR.out
       rw [show f8 i = 9 by simp [f8, h1, h2]] at h
       have h5 := HS2.out (.int .i64 9)
       rw [List.set_set] at h5
       rw [← h]
       exact h5
      case measure => first | (simp [intOf]; omega) | simp [intOf]
     ·have k3 : ¬ (i : Int) < 256 := by omega
      have k4 : (i : Int) ≥ 256 := by omega
      by_cases h3 : i < 280
      ·have k5 : (i : Int) < 280 := by omega
       go_wp2_with fail
       go_roundw
       case rel =>
        refine ⟨i + 1, by go_num, by omega, ?_⟩
        have h := HR.out
        rw [show f8 i = 7 by simp [f8, h1, h2, h3]] at h
        have h5 := HS2.out (.int .i64 7)
        rw [List.set_set] at h5
        rw [← h]
        exact h5
       case measure => first | (simp [intOf]; omega) | simp [intOf]
      ·have k5 : ¬ (i : Int) < 280 := by omega
       go_wp2_with fail
       go_roundw
       case rel =>
        refine ⟨i + 1, by go_num, by omega, ?_⟩
        have h := HR.out
        rw [show f8 i = 8 by simp [f8, h1, h2, h3]] at h
        rw [← h]
        exact HH2.out
       case measure => first | (simp [intOf]; omega) | simp [intOf]
   ·have k1 : ¬ (i : Int) < 288 := by omega
    obtain rfl : i = 288 := by omega
    rw [rowF_all, f8_all, rowF_zero f5 32] at H1
    go_wp2_with fail
    go_loopw [5, 37] (fun _ iv wr => ∃ i : Nat, iv = .int .i64 (i : Int) ∧ i ≤ 32 ∧ Sp w0 (Row 3 1 (.slice (some a2) 32 32) 32 (cellsN (rowF f5 32 i)) :: Row 3 1 (.slice (some a1) 288 288) 288 (cellsN PI.fixedL) :: L) wr) (fun _ iv _ => 32 - (intOf iv).toNat)
    case atStart => exact ⟨0, rfl, Nat.zero_le _, H1.swap⟩
    case round =>
     obtain ⟨i, rfl, hi32, H1⟩ := hrel
     by_cases hlt : i < 32
     ·have k1 : (i : Int) < 32 := by omega
      obtain ⟨ad9, c9, e9, _, ccell, cfrz, hset⟩ := H1.rowSet hlt
      injection e9 with e9 _ _
      injection e9 with e9
      subst e9
      have hc1 : (wr.cell? (a2.add i)) = some (.int .i64 0) := by
       rw [ccell]; simp [cellsN, rowF, hlt]
      have H2 := hset (.int .i64 5)
      have hr := rowF_set f5 32 i hlt
      have e5 : f5 i = 5 := rfl
      rw [e5] at hr
      have hr2 : (cellsN (rowF f5 32 i)).set i (.int .i64 5) = cellsN (rowF f5 32 (i + 1)) := hr
      rw [hr2] at H2
      have HH2 := Lib.hid H2
      clear hset hr hr2 ccell H2
      go_wp2_with fail
      go_roundw
      case rel => exact ⟨i + 1, by go_num, by omega, HH2.out⟩
      case measure => first | (simp [intOf]; omega) | simp [intOf]
     ·have k1 : ¬ (i : Int) < 32 := by omega
      obtain rfl : i = 32 := by omega
      rw [rowF_all, f5_all] at H1
      go_wp2_with fail
      go_ret2
      exact ⟨_, _, rfl, H1.swap⟩
end Go.Proofs.YtiogaejfcenooaaDoor

namespace Go.Proofs.YtiogaejfcenooaaDoor
set_option linter.unusedVariables false
open Go.ChangeShapes Go.WideShapes Go.ChangeAt Go.RowKit Go.Deep
section
variable {H : Type} {enc : TypeId × Value → H} {P : Program} {w : World} {base : Nat} {spare : Nat → Bool} {held : Bool}
end
theorem Rd.same {W : World} {A : Option Addr} {xs : List Value} (h : Rd W A xs) {L : List Pr} (k : Nat) (hk : L[k]? = some (Same W)) : Ent L (fun w => Rd w A xs) :=
 Ent.of_same k hk fun _ hs => h.keep fun p _ _ hp => World.cell?_of_block (hs p.block (cell_lt hp))
end Go.Proofs.YtiogaejfcenooaaDoor

