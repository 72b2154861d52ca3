/- A pack of texts: HuffPlain HuffA HuffB HuffC SortA. -/
import Derived.Test.YtiogaejfcenooaaDoorPk02
import Derived.Test.YtiogaejfcenooaaDoorPk03
namespace Go.Proofs.YtiogaejfcenooaaDoor
namespace PH
def bad (n : Int) : Bool := decide (n < 0 ∨ 15 < n)
def may (l : List Int) : Bool := decide (l.length ≤ 1024) && !l.any bad
def tal (l : List Nat) (n : Nat) : Nat := if n = 0 then 0 else l.count n
theorem tal_le (l : List Nat) (n : Nat) : tal l n ≤ l.length := by
 unfold tal
 split
 ·exact Nat.zero_le _
 ·exact List.count_le_length
theorem may_nat {l : List Int} (h : may l = true) : ∃ m : List Nat, l = m.map (fun n : Nat => (n : Int)) ∧ m.length ≤ 1024 ∧ ∀ n ∈ m, n ≤ 15 := by
 unfold may at h
 simp only [Bool.and_eq_true, decide_eq_true_eq, Bool.not_eq_true', List.any_eq_false] at h
 refine ⟨l.map Int.toNat, ?_, by rw [List.length_map]; exact h.1, ?_⟩
 ·rw [List.map_map]
  refine (List.map_id l).symm.trans (List.map_congr_left fun n hn => ?_)
  have := h.2 n hn
  unfold bad at this
  simp only [decide_eq_true_eq] at this
  show n = ((n.toNat : Nat) : Int)
  omega
 ·intro n hn
  obtain ⟨x, hx, rfl⟩ := List.mem_map.1 hn
  have := h.2 x hx
  unfold bad at this
  simp only [decide_eq_true_eq] at this
  omega
def share (l : List Nat) : Nat → Nat
 | 0 => 0
 | n + 1 => share l n + tal l n * 2 ^ (15 - n)
theorem share_le (l : List Nat) (n : Nat) : share l n ≤ n * (l.length * 32768) := by
 induction n with
 | zero => exact Nat.zero_le _
 | succ n ih =>
  unfold share
  have h1 := tal_le l n
  have h2 : 2 ^ (15 - n) ≤ 32768 := by
   have : (2 : Nat) ^ (15 - n) ≤ 2 ^ 15 := Nat.pow_le_pow_right (by omega) (by omega)
   exact this
  have h3 : tal l n * 2 ^ (15 - n) ≤ l.length * 32768 := Nat.mul_le_mul h1 h2
  rw [Nat.succ_mul]
  omega
def sum (l : List Nat) : Nat := share l 16
def state (l : List Nat) : Int := if sum l < 32768 then -1 else if 32768 < sum l then 1 else 0
def fst (l : List Nat) : Nat → Nat
 | 0 => 0
 | 1 => 0
 | n + 2 => (fst l (n + 1) + tal l (n + 1)) * 2
theorem fst_share (l : List Nat) (n : Nat) (h1 : 1 ≤ n) (h : n ≤ 16) : fst l n * 2 ^ (16 - n) = 2 * share l n := by
 induction n with
 | zero => omega
 | succ n ih =>
  cases n with
  | zero =>
   show 0 * _ = 2 * (share l 0 + tal l 0 * 2 ^ 15)
   simp [share, tal]
  | succ n =>
   have := ih (by omega) (by omega)
   rw [show fst l (n + 1 + 1) = (fst l (n + 1) + tal l (n + 1)) * 2 from rfl, show share l (n + 1 + 1) = share l (n + 1) + tal l (n + 1) * 2 ^ (15 - (n + 1)) from rfl]
   have e1 : 16 - (n + 1) = (16 - (n + 1 + 1)) + 1 := by omega
   have e2 : 15 - (n + 1) = 16 - (n + 1 + 1) := by omega
   rw [e1, Nat.pow_succ] at this
   rw [e2]
   generalize 2 ^ (16 - (n + 1 + 1)) = p at this ⊢
   generalize fst l (n + 1) = a at this ⊢
   generalize tal l (n + 1) = b
   generalize share l (n + 1) = c at this ⊢
   have h3 : (a + b) * 2 * p = a * (p * 2) + 2 * (b * p) := by
    rw [Nat.add_mul, Nat.add_mul, Nat.mul_assoc, Nat.mul_assoc b 2 p, Nat.mul_comm 2 p, ← Nat.mul_assoc b p 2, Nat.mul_comm (b * p) 2]
   rw [h3, this, Nat.mul_add]
theorem share_mono (l : List Nat) (n k : Nat) (h : n ≤ k) : share l n ≤ share l k := by
 obtain ⟨d, rfl⟩ : ∃ d, k = n + d := ⟨k - n, by omega⟩
 clear h
 induction d with
 | zero => exact Nat.le_refl _
 | succ d ih => rw [← Nat.add_assoc, share]; omega
theorem fst_le (l : List Nat) (n : Nat) (h : n ≤ 16) (hs : sum l ≤ 32768) : fst l n ≤ 65536 := by
 rcases Nat.eq_zero_or_pos n with h0 | h0
 ·subst h0; exact Nat.zero_le _
 ·have h1 := fst_share l n h0 h
  have h2 := share_mono l n 16 h
  have h3 : 1 ≤ 2 ^ (16 - n) := Nat.one_le_two_pow
  have h4 : fst l n * 1 ≤ fst l n * 2 ^ (16 - n) := Nat.mul_le_mul_left _ h3
  unfold sum at hs
  omega
def codeAt (l : List Nat) (k : Nat) : Nat := if l.getD k 0 = 0 then 0 else fst l (l.getD k 0) + (l.take k).count (l.getD k 0)
def codes (l : List Nat) : List Nat := (List.range l.length).map (codeAt l)
def idx (l : List Nat) (n k : Nat) : List Nat := (List.range k).filter fun i => l.getD i 0 == n
theorem idx_succ (l : List Nat) (n k : Nat) : idx l n (k + 1) = if l.getD k 0 = n then idx l n k ++ [k] else idx l n k := by
 unfold idx
 rw [List.range_succ, List.filter_append]
 have e : List.filter (fun i => l.getD i 0 == n) [k] = if l.getD k 0 = n then [k] else [] := by
  rw [List.filter_cons]
  by_cases h : l.getD k 0 = n
  ·rw [if_pos h, if_pos (by rw [h]; exact beq_self_eq_true n)]; rfl
  ·rw [if_neg h, if_neg (by rw [beq_iff_eq]; exact h)]; rfl
 rw [e]
 split
 ·rfl
 ·rw [List.append_nil]
theorem idx_zero (l : List Nat) (n : Nat) : idx l n 0 = [] := rfl
def rowsB (l : List Nat) : Nat → List Nat
 | 0 => []
 | n + 1 => rowsB l n ++ idx l (n + 1) l.length
def rows (l : List Nat) : List Nat := rowsB l 15
theorem idx_len (l : List Nat) (n k : Nat) : (idx l n k).length ≤ k := by
 have := List.length_filter_le (fun i => l.getD i 0 == n) (List.range k)
 rwa [List.length_range] at this
theorem rowsB_len (l : List Nat) (n : Nat) : (rowsB l n).length ≤ n * l.length := by
 induction n with
 | zero => exact Nat.zero_le _
 | succ n ih =>
  rw [rowsB, List.length_append, Nat.succ_mul]
  have := idx_len l (n + 1) l.length
  omega
end PH
end Go.Proofs.YtiogaejfcenooaaDoor

namespace Go.Proofs.YtiogaejfcenooaaDoor
open Go.RowKit
theorem Rd.at64 {w : World} {A : Option Addr} {l : List Int} (h : Rd w A (cells64 l)) {k : Nat} (hk : k < l.length) :
  ∃ ad, A = some ad ∧ w.cell? (ad.add k) = some (.int .i64 l[k]) := by
 obtain ⟨ad, e, hc⟩ := h.at_ (k := k) (by simpa [cells64] using hk)
 exact ⟨ad, e, by simpa [cells64] using hc⟩
theorem bad_ok (n : Int) (w : World) : Calls Tryd.prog 164 #[.int .i64 n] w fun e w' => e = .returned (.bool (PH.bad n)) ∧ w = w' := by
 obtain ⟨r, hr⟩ : ∃ r, PH.bad n = r := ⟨_, rfl⟩
 have HR := Lib.hid hr
 rw [hr]
 clear hr
 go_enter Tryd.func164, Tryd.ntmps164
 go_wp2
 all_goals (
  go_ret
  refine ⟨ret_bool ?_, rfl⟩
  rw [← HR.out]
  unfold PH.bad
  first
   | exact (decide_eq_true (by omega)).symm
   | exact (decide_eq_false (by omega)).symm
   | (rw [Bool.eq_iff_iff]; simp only [Bool.or_eq_true, decide_eq_true_eq]; done)
   | (rw [Bool.eq_iff_iff]; simp only [Bool.or_eq_true, decide_eq_true_eq]; omega))
set_option maxRecDepth 100000 in
theorem index_ok (A : Option Addr) (n c : Nat) (l : List Int) {w0 w : World} {L : List Pr} (H : Sp w0 L w) (hn : n = l.length) (hb : Ent L fun w => Rd w A (cells64 l)) (hl : n ≤ 1000000000) :
  Calls Tryd.prog 169 #[.slice A n c, .func (.func 164) #[] #[]] w fun e w' => ∃ r : Int, e = .returned (.int .i64 r) ∧ (0 ≤ r ↔ l.any PH.bad = true) ∧ Sp w0 L w' := by
 have HN := Lib.hid hn
 have HB := Lib.hid hb
 clear hn hb
 obtain ⟨z, hz⟩ : ∃ z, l.any PH.bad = z := ⟨_, rfl⟩
 rw [hz]
 have HZ := Lib.hid hz
 clear hz
 go_enter Tryd.func169, Tryd.ntmps169
 go_wp2_with fail
 go_loopw [8] (fun iv wr => ∃ i : Nat, iv = .int .i64 (i : Int) ∧ i ≤ n ∧ (l.take i).any PH.bad = false ∧ Sp w0 L wr) (fun iv _ => n - (intOf iv).toNat)
 case atStart => exact ⟨0, rfl, Nat.zero_le _, rfl, H⟩
 case round =>
  obtain ⟨i, rfl, hi, hno, H⟩ := hrel
  have HNO := Lib.hid hno
  clear hno
  by_cases hin : i < n
  ·have k1 : (i : Int) < (n : Int) := by omega
   have hiX : i < l.length := by rw [← HN.out]; exact hin
   obtain ⟨ad, rfl, hc⟩ := (HB.out _ _ H).at64 hiX
   obtain ⟨x, hx⟩ : ∃ x, l[i] = x := ⟨_, rfl⟩
   rw [hx] at hc
   have htk : (l.take (i + 1)).any PH.bad = PH.bad x := by
    rw [List.take_succ_eq_append_getElem hiX, List.any_append, HNO.out, hx]
    simp
   have HTK := Lib.hid htk
   have hmem : x ∈ l := by rw [← hx]; exact List.getElem_mem hiX
   have HMEM := Lib.hid hmem
   clear htk hx hmem
   go_wp2_with fail
   refine (bad_ok x _).mono ?_
   rintro _ _ ⟨rfl, rfl⟩
   cases hbx : PH.bad x
   ·rw [hbx] at HTK
    go_wp2_with fail
    go_roundw
    case rel => exact ⟨i + 1, by go_num, by omega, HTK.out, H⟩
    case measure => first | (simp [intOf]; omega) | simp [intOf]
   ·have HBX := Lib.hid hbx
    clear hbx
    go_wp2_with fail
    go_ret
    exact ⟨_, rfl, ⟨fun _ => by rw [← HZ.out]; exact List.any_eq_true.2 ⟨x, HMEM.out, HBX.out⟩, fun _ => by omega⟩, H⟩
  ·have k1 : ¬ (i : Int) < (n : Int) := by omega
   go_wp2_with fail
   go_ret
   have h0 := HNO.out
   rw [List.take_of_length_le (by rw [← HN.out]; omega), HZ.out] at h0
   refine ⟨_, rfl, ?_, H⟩
   rw [h0]
   exact ⟨fun h => absurd h (by omega), fun h => by cases h⟩
set_option maxRecDepth 100000 in
set_option maxHeartbeats 1000000 in
theorem contains_ok (A : Option Addr) (n c : Nat) (l : List Int) {w0 w : World} {L : List Pr} (H : Sp w0 L w) (hn : n = l.length) (hb : Ent L fun w => Rd w A (cells64 l)) (hl : n ≤ 1000000000) :
  Calls Tryd.prog 163 #[.slice A n c, .func (.func 164) #[] #[]] w fun e w' => e = .returned (.bool (l.any PH.bad)) ∧ Sp w0 L w' := by
 have hix := index_ok A n c l H hn hb hl
 obtain ⟨z, hz⟩ : ∃ z, l.any PH.bad = z := ⟨_, rfl⟩
 rw [hz] at hix ⊢
 have HIX := Lib.hid hix
 clear hix hz hb hn
 go_enter Tryd.func163, Tryd.ntmps163
 go_wp2_with fail
 refine HIX.out.mono ?_
 rintro _ w2 ⟨r, rfl, hr, H2⟩
 clear HIX
 by_cases h0 : 0 ≤ r
 ·have h1 := hr.1 h0
  subst h1
  clear hr
  go_wp2
  go_ret
  exact ⟨rfl, H2⟩
 ·have h1 : z = false := by
   cases z
   ·rfl
   ·exact absurd (hr.2 rfl) h0
  subst h1
  have k : decide (0 ≤ r) = false := decide_eq_false h0
  clear hr h0
  go_wp2
  go_ret
  exact ⟨rfl, H2⟩
set_option maxRecDepth 100000 in
set_option maxHeartbeats 1000000 in
theorem hmay_ok (A : Option Addr) (n c : Nat) (l : List Int) {w0 w : World} {L : List Pr} (H : Sp w0 L w) (hn : n = l.length) (hb : Ent L fun w => Rd w A (cells64 l)) (hl : n ≤ 1000000000) :
  Calls Tryd.prog 146 #[.slice A n c] w fun e w' => e = .returned (.bool (PH.may l)) ∧ Sp w0 L w' := by
 have hc := contains_ok A n c l H hn hb hl
 obtain ⟨z, hz⟩ : ∃ z, l.any PH.bad = z := ⟨_, rfl⟩
 obtain ⟨m, hm⟩ : ∃ m, PH.may l = m := ⟨_, rfl⟩
 rw [hz] at hc
 rw [hm]
 have HC := Lib.hid hc
 have hmz : m = (decide (n ≤ 1024) && !z) := by rw [← hm, ← hz, hn]; rfl
 have HMZ := Lib.hid hmz
 clear hc hz hm hmz hb hn
 by_cases h : n ≤ 1024
 ·have k1 : decide ((n : Int) ≤ 1024) = true := decide_eq_true (by omega)
  go_enter Tryd.func146, Tryd.ntmps146
  go_wp2_with fail
  refine HC.out.mono ?_
  rintro _ w2 ⟨rfl, H2⟩
  go_wp2
  go_ret
  exact ⟨ret_bool (by rw [HMZ.out, decide_eq_true h]; rfl), H2⟩
 ·have k1 : decide ((n : Int) ≤ 1024) = false := decide_eq_false (by omega)
  go_enter Tryd.func146, Tryd.ntmps146
  go_wp2
  go_ret
  exact ⟨ret_bool (by rw [HMZ.out, decide_eq_false h]; rfl), H⟩
end Go.Proofs.YtiogaejfcenooaaDoor

namespace Go.Proofs.YtiogaejfcenooaaDoor
open Go.RowKit
def cntV (f : Nat → Nat) : List Value := (List.range 16).map fun i => .int .i64 (f i : Int)
theorem cntV_get (f : Nat → Nat) (i : Nat) (h : i < 16) : (cntV f)[i]? = some (.int .i64 (f i : Int)) := by
 unfold cntV
 rw [List.getElem?_map, List.getElem?_range h]
 rfl
theorem cntV_set (f : Nat → Nat) (x v : Nat) : (cntV f).set x (.int .i64 (v : Int)) = cntV fun i => if i = x then v else f i := by
 apply List.ext_getElem?
 intro i
 rw [List.getElem?_set]
 by_cases h : i < 16
 ·rw [cntV_get _ _ h, cntV_get _ _ h]
  by_cases e : x = i
  ·subst e
   rw [if_pos rfl, if_pos (by simp [cntV]; exact h), if_pos rfl]
  ·rw [if_neg e, if_neg (fun h => e h.symm)]
 ·have h1 : (cntV f)[i]? = none := List.getElem?_eq_none (by simp [cntV]; omega)
  have h2 : (cntV fun i => if i = x then v else f i)[i]? = none := List.getElem?_eq_none (by simp [cntV]; omega)
  rw [h1, h2]
  split
  ·rw [if_neg (by simp [cntV]; omega)]
  ·rfl
theorem cntV_one (f : Nat → Nat) : ∀ v ∈ cntV f, v.oneCell' = true := by
 intro v hv
 obtain ⟨i, _, rfl⟩ := List.mem_map.1 hv
 rfl
def tallyV (m : List Nat) : Value := .agg (cntV (PH.tal m)).toArray
theorem addr0 (g j : Nat) : (⟨g, 0, none⟩ : Addr).add j = ⟨g, j, none⟩ := by
 unfold Addr.add; split
 ·rename_i h0; subst h0; rfl
 ·simp
def castI (m : List Nat) : List Int := m.map fun n : Nat => (n : Int)
set_option maxRecDepth 100000 in
set_option maxHeartbeats 4000000 in
theorem tally_ok (A : Option Addr) (n c : Nat) (m : List Nat) {w0 w : World} {L : List Pr} (H : Sp w0 L w) (hn : n = m.length) (hb : Ent L fun w => Rd w A (cells64 (castI m))) (hl : n ≤ 1000000000) (h15 : ∀ x ∈ m, x ≤ 15) :
  Calls Tryd.prog 105 #[.slice A n c] w fun e w' => e = .returned (tallyV m) ∧ Sp w0 L w' := by
 have HN := Lib.hid hn
 have HB := Lib.hid hb
 clear hn hb
 obtain ⟨t, ht⟩ : ∃ t, tallyV m = t := ⟨_, rfl⟩
 rw [ht]
 have HT := Lib.hid ht
 clear ht
 have es : (w.alloc (.cells #[.int .i64 0, .int .i64 0, .int .i64 0, .int .i64 0, .int .i64 0, .int .i64 0, .int .i64 0, .int .i64 0, .int .i64 0, .int .i64 0, .int .i64 0, .int .i64 0, .int .i64 0, .int .i64 0, .int .i64 0, .int .i64 0] 190)).heap.size = w.heap.size + 1 := Array.size_push _
 have H1 := (H.newBk [.int .i64 0, .int .i64 0, .int .i64 0, .int .i64 0, .int .i64 0, .int .i64 0, .int .i64 0, .int .i64 0, .int .i64 0, .int .i64 0, .int .i64 0, .int .i64 0, .int .i64 0, .int .i64 0, .int .i64 0, .int .i64 0] 190).newBk [.int .i64 0, .int .i64 0, .int .i64 0, .int .i64 0, .int .i64 0, .int .i64 0, .int .i64 0, .int .i64 0, .int .i64 0, .int .i64 0, .int .i64 0, .int .i64 0, .int .i64 0, .int .i64 0, .int .i64 0, .int .i64 0] 190
 rw [es] at H1
 clear es
 go_enter Tryd.func105, Tryd.ntmps105
 go_wp2_with fail
 generalize w.heap.size + 1 = g3 at H1 ⊢
 generalize w.heap.size = g2 at H1 ⊢
 generalize (w.alloc _).alloc _ = w1 at H1 ⊢
 obtain ⟨G, hG⟩ : ∃ G : Addr, (⟨g3, 0, none⟩ : Addr) = G := ⟨_, rfl⟩
 rw [hG]
 have HG := Lib.hid hG
 clear hG
 go_loopw [8] (fun iv wr => ∃ i : Nat, iv = .int .i64 (i : Int) ∧ i ≤ n ∧ Sp w0 (Bk g3 190 (cntV fun k => (m.take i).count k) :: Bk g2 190 [.int .i64 0, .int .i64 0, .int .i64 0, .int .i64 0, .int .i64 0, .int .i64 0, .int .i64 0, .int .i64 0, .int .i64 0, .int .i64 0, .int .i64 0, .int .i64 0, .int .i64 0, .int .i64 0, .int .i64 0, .int .i64 0] :: L) wr) (fun iv _ => n - (intOf iv).toNat)
 case atStart => exact ⟨0, rfl, Nat.zero_le _, H1⟩
 case round =>
  obtain ⟨i, rfl, hi, H2⟩ := hrel
  by_cases hin : i < n
  ·have k1 : (i : Int) < (n : Int) := by omega
   have hiX : i < m.length := by rw [← HN.out]; exact hin
   obtain ⟨ad, rfl, hc⟩ := (HB.out _ _ (H2.pick 2 [])).at64 (k := i) (by simpa [castI] using hiX)
   obtain ⟨x, hx⟩ : ∃ x, m[i] = x := ⟨_, rfl⟩
   have hx15 : x ≤ 15 := by rw [← hx]; exact h15 _ (List.getElem_mem hiX)
   replace hc : wr.cell? (ad.add i) = some (.int .i64 (x : Int)) := by
    rw [hc]
    simp [castI, hx]
   obtain ⟨q, hq⟩ : ∃ q, (m.take i).count x = q := ⟨_, rfl⟩
   have hqn : q ≤ i := by
    rw [← hq]
    refine Nat.le_trans List.count_le_length ?_
    rw [List.length_take]; omega
   have c1 : wr.cell? (G.add x) = some (.int .i64 (q : Int)) := by
    rw [← HG.out, addr0, H2.cell 0 rfl x, cntV_get _ _ (by omega), hq]
   have z1 : wr.frozen? (G.add x) = false := by
    rw [← HG.out, addr0]
    exact H2.frozen 0 rfl x
   have k2 : (x : Int) < 16 := by omega
   have hset : Sp w0 (Bk g3 190 (cntV fun k => (m.take (i + 1)).count k) :: Bk g2 190 [.int .i64 0, .int .i64 0, .int .i64 0, .int .i64 0, .int .i64 0, .int .i64 0, .int .i64 0, .int .i64 0, .int .i64 0, .int .i64 0, .int .i64 0, .int .i64 0, .int .i64 0, .int .i64 0, .int .i64 0, .int .i64 0] :: L) (wr.setCell (G.add x) (.int .i64 ((q : Int) + 1))) := by
    have h := H2.set x (.int .i64 ((q + 1 : Nat) : Int))
    rw [cntV_set] at h
    rw [← HG.out, addr0]
    have e : (fun k => (m.take (i + 1)).count k) = fun k => if k = x then q + 1 else (m.take i).count k := by
     funext k
     rw [List.take_succ_eq_append_getElem hiX, List.count_append, hx]
     by_cases ek : k = x
     ·subst ek
      rw [if_pos rfl, hq]
      simp
     ·rw [if_neg ek, List.count_singleton, beq_eq_false_iff_ne.2 (fun h => ek h.symm)]
      simp
    rw [e]
    exact h
   have HS := Lib.hid hset
   clear hset hq hx
   go_wp2_with fail
   go_roundw
   case rel => exact ⟨i + 1, by go_num, by omega, HS.out⟩
   case measure => first | (simp [intOf]; omega) | simp [intOf]
  ·have k1 : ¬ (i : Int) < (n : Int) := by omega
   rw [List.take_of_length_le (by rw [← HN.out]; omega)] at H2
   have e0 : (fun i => if i = 0 then 0 else m.count i) = PH.tal m := by
    funext i; unfold PH.tal; rfl
   have H4 := H2.set 0 (.int .i64 ((0 : Nat) : Int))
   rw [cntV_set, e0] at H4
   have c0 : wr.cell? ⟨g3, 0, none⟩ = some (.int .i64 (m.count 0 : Int)) := by rw [H2.cell 0 rfl 0, cntV_get _ _ (by omega)]
   have z0 : wr.frozen? ⟨g3, 0, none⟩ = false := H2.frozen 0 rfl 0
   have HH4 := Lib.hid H4
   have hsw := H4.swap
   have HSW := Lib.hid hsw
   clear H4 hsw
   obtain rfl := HG.out
   go_wp2_with (first | (refine wpList_load_whole rfl 190 _ rfl g3 190 (cntV (PH.tal m)) rfl (HH4.out.blk 0 rfl) Tryd.isAgg190 Tryd.sizeOf190 ?_) | (refine wpList_store_whole rfl 190 _ _ rfl g2 190 _ (cntV (PH.tal m)) rfl rfl HSW.out rfl Tryd.sizeOf190 (cntV_one _) ?_))
   intro w9 H9
   go_wp2_with fail
   have hld := run_loadCells_list (P := Tryd.prog) w9 ⟨g2, 0, none⟩ (cntV (PH.tal m)) (fun j v hj => by rw [addr0, H9.cell 0 rfl]; exact hj)
   rw [show (cntV (PH.tal m)).length = 16 from rfl] at hld
   refine bodyPost_ret (v := tallyV m) (by simp [results, Tryd.results105, Tryd.isAgg190, Tryd.sizeOf190, hld, Result.andThen, tallyV, asAddr, loadVar]) rfl ?_
   exact ⟨by rw [HT.out], H9.pick 2 []⟩
end Go.Proofs.YtiogaejfcenooaaDoor

namespace Go.Proofs.YtiogaejfcenooaaDoor
open Go.RowKit
def cmpI (x y : Int) : Int := if x < y then -1 else if y < x then 1 else 0
set_option maxRecDepth 100000 in
theorem nan_ok (x : Int) (w : World) : Calls Tryd.prog 145 #[.int .i64 x] w fun e w' => e = .returned (.bool false) ∧ w = w' := by
 go_enter Tryd.func145, Tryd.ntmps145
 go_wp2
 go_ret
 exact ⟨rfl, rfl⟩
set_option maxRecDepth 100000 in
theorem cmp_ok (x y : Int) (w : World) : Calls Tryd.prog 102 #[.int .i64 x, .int .i64 y] w fun e w' => e = .returned (.int .i64 (cmpI x y)) ∧ w = w' := by
 obtain ⟨r, hr⟩ : ∃ r, cmpI x y = r := ⟨_, rfl⟩
 rw [hr]
 have HR := Lib.hid hr
 clear hr
 go_enter Tryd.func102, Tryd.ntmps102
 go_wp2_with fail
 refine (nan_ok x _).mono ?_
 rintro _ _ ⟨rfl, rfl⟩
 go_wp2_with fail
 refine (nan_ok y _).mono ?_
 rintro _ _ ⟨rfl, rfl⟩
 by_cases h1 : x < y
 ·go_wp2_with fail
  go_ret
  exact ⟨ret_i64 (by rw [← HR.out]; unfold cmpI; rw [if_pos h1]), rfl⟩
 ·by_cases h2 : y < x
  ·go_wp2_with fail
   go_ret
   exact ⟨ret_i64 (by rw [← HR.out]; unfold cmpI; rw [if_neg (by omega), if_pos (by omega)]), rfl⟩
  ·go_wp2_with fail
   go_ret
   exact ⟨ret_i64 (by rw [← HR.out]; unfold cmpI; rw [if_neg (by omega), if_neg (by omega)]), rfl⟩
theorem index16 (f : Nat → Nat) (i : Nat) (h : i < 16) (w : World) : (Instr.index 190 (.agg (cntV f).toArray) (.int .i64 (i : Int))).run Tryd.prog w = .ok (.int .i64 (f i : Int)) w := by
 simp [Instr.index, run_underlying Tryd.underlying190, asIntOf, part, Result.andThen, cntV_get f i h]
 intro h2; omega
set_option maxRecDepth 100000 in
set_option maxHeartbeats 2000000 in
theorem state_ok (A : Option Addr) (n c : Nat) (m : List Nat) {w0 w : World} {L : List Pr} (H : Sp w0 L w) (hn : n = m.length) (hb : Ent L fun w => Rd w A (cells64 (castI m))) (hl : n ≤ 1024) (h15 : ∀ x ∈ m, x ≤ 15) :
  Calls Tryd.prog 103 #[.slice A n c] w fun e w' => e = .returned (.tuple #[.int .i64 (PH.state m), .int .i64 0]) ∧ Sp w0 L w' := by
 have hmay := hmay_ok A n c (castI m) H (by simpa [castI] using hn) hb (by omega)
 have hmt : PH.may (castI m) = true := by
  unfold PH.may
  rw [decide_eq_true (by rw [← show n = (castI m).length by simpa [castI] using hn]; exact hl), Bool.true_and, Bool.not_eq_true', List.any_eq_false]
  intro x hx
  obtain ⟨y, hy, rfl⟩ := List.mem_map.1 hx
  have := h15 y hy
  unfold PH.bad
  simp only [decide_eq_true_eq]
  omega
 rw [hmt] at hmay
 have HN := Lib.hid hn
 have HB := Lib.hid hb
 have H15 := Lib.hid h15
 have hst : cmpI (PH.sum m : Int) 32768 = PH.state m := by
  unfold cmpI PH.state
  by_cases h1 : PH.sum m < 32768
  ·rw [if_pos h1, if_pos (by omega)]
  ·rw [if_neg h1, if_neg (by omega)]
   by_cases h2 : 32768 < PH.sum m
   ·rw [if_pos h2, if_pos (by omega)]
   ·rw [if_neg h2, if_neg (by omega)]
 have HST := Lib.hid hst
 clear hn hb h15 hmt hst
 obtain ⟨st, hst⟩ : ∃ st, PH.state m = st := ⟨_, rfl⟩
 rw [hst]
 rw [hst] at HST
 clear hst
 obtain ⟨t, ht⟩ : ∃ t, tallyV m = t := ⟨_, rfl⟩
 have hix : ∀ (i : Nat) (w : World), i < 16 → (Instr.index 190 t (.int .i64 (i : Int))).run Tryd.prog w = .ok (.int .i64 (PH.tal m i : Int)) w := fun i w h => by rw [← ht]; exact index16 _ i h w
 have HIX := Lib.hid hix
 have HT := Lib.hid ht
 clear hix ht
 go_enter Tryd.func103, Tryd.ntmps103
 go_wp2_with fail
 refine hmay.mono ?_
 rintro _ w1 ⟨rfl, H1⟩
 clear hmay
 go_wp2_with fail
 refine (tally_ok A n c m H1 HN.out HB.out (by omega) H15.out).mono ?_
 rintro _ w2 ⟨rfl, H2⟩
 rw [HT.out]
 go_wp2_with fail
 go_loopw [4, 12] (fun sv iv wr => ∃ i : Nat, iv = .int .i64 (i : Int) ∧ sv = .int .i64 (PH.share m i : Int) ∧ i ≤ 16 ∧ Sp w0 L wr) (fun _ iv _ => 16 - (intOf iv).toNat)
 case atStart => exact ⟨0, rfl, rfl, by omega, H2⟩
 case round =>
  obtain ⟨i, rfl, rfl, hi, H3⟩ := hrel
  by_cases hin : i < 16
  ·have k1 : (i : Int) < 16 := by omega
   have hx := HIX.out i wr hin
   obtain ⟨q, hq⟩ : ∃ q, PH.tal m i = q := ⟨_, rfl⟩
   have hqn : q ≤ n := by rw [← hq, HN.out]; exact PH.tal_le m i
   obtain ⟨s, hs⟩ : ∃ s, PH.share m i = s := ⟨_, rfl⟩
   have hsn : s ≤ 600000000 := by
    rw [← hs]
    have := PH.share_le m i
    rw [← HN.out] at this
    have h2 : i * (n * 32768) ≤ 16 * (1024 * 32768) := Nat.mul_le_mul (by omega) (Nat.mul_le_mul_right _ hl)
    omega
   have hss : PH.share m (i + 1) = s + q * 2 ^ (15 - i) := by rw [PH.share, hs, hq]
   rw [hq] at hx
   rw [hs]
   obtain ⟨p, hp⟩ : ∃ p, q * 2 ^ (15 - i) = p := ⟨_, rfl⟩
   have hpn : p ≤ 40000000 := by
    rw [← hp]
    have : (2 : Nat) ^ (15 - i) ≤ 2 ^ 15 := Nat.pow_le_pow_right (by omega) (by omega)
    have h2 : q * 2 ^ (15 - i) ≤ 1024 * 2 ^ 15 := Nat.mul_le_mul (by omega) this
    omega
   rw [hp] at hss
   have HSS := Lib.hid hss
   have HP := Lib.hid hp
   clear hss hp hq hs
   obtain ⟨d, hd⟩ : ∃ d, 15 - i = d := ⟨_, rfl⟩
   have e1 : (15 : Int) - (i : Int) = (d : Int) := by omega
   have hd15 : d ≤ 15 := by omega
   rw [hd] at HP
   have e2 : (q : Int) * 2 ^ d = (p : Int) := by
    rw [← HP.out]
    simp
   clear hd
   go_wp2_with fail
   go_roundw
   case rel =>
    refine ⟨i + 1, by go_num, ?_, by omega, H3⟩
    rw [HSS.out]
    exact congrArg (Value.int .i64) (by omega)
   case measure => first | (simp [intOf]; omega) | simp [intOf]
  ·have k1 : ¬ (i : Int) < 16 := by omega
   obtain rfl : i = 16 := by omega
   obtain ⟨s, hs⟩ : ∃ s, PH.share m 16 = s := ⟨_, rfl⟩
   have hs2 : PH.sum m = s := hs
   rw [hs2] at HST
   rw [hs]
   clear hs hs2
   go_wp2_with fail
   refine (cmp_ok (s : Int) 32768 _).mono ?_
   rintro _ _ ⟨rfl, rfl⟩
   rw [HST.out]
   go_wp2_with fail
   go_ret2
   exact ⟨rfl, H3⟩
end Go.Proofs.YtiogaejfcenooaaDoor

namespace Go.Proofs.YtiogaejfcenooaaDoor
open Go.RowKit
def cmpF : Value := .func (.func 101) #[] #[]
set_option maxRecDepth 100000 in
theorem cmpK_ok (x y : PK) {w0 w : World} {L : List Pr} (H : Sp w0 L w) :
  Calls Tryd.prog 101 #[x.val, y.val] w fun e w' => e = .returned (.int .i64 (cmpI x.c y.c)) ∧ Sp w0 L w' := by
 obtain ⟨a, b, p⟩ := x
 obtain ⟨c, d, q⟩ := y
 unfold PK.val PK.ptr
 simp only
 obtain ⟨P, hP⟩ : ∃ P : Option Addr, p.map (fun g => (⟨g, 0, none⟩ : Addr)) = P := ⟨_, rfl⟩
 obtain ⟨Q, hQ⟩ : ∃ P : Option Addr, q.map (fun g => (⟨g, 0, none⟩ : Addr)) = P := ⟨_, rfl⟩
 rw [hP, hQ]
 clear hP hQ p q
 obtain ⟨r, hr⟩ : ∃ r, cmpI a c = r := ⟨_, rfl⟩
 have hc := fun w => cmp_ok a c w
 rw [hr] at hc ⊢
 have HC := Lib.hid hc
 clear hc hr
 have es : (w.alloc (.cells #[.int .i64 a, .int .i64 b, .pointer P] 145)).heap.size = w.heap.size + 1 := Array.size_push _
 have H1 := (H.newBk [.int .i64 a, .int .i64 b, .pointer P] 145).newBk [.int .i64 c, .int .i64 d, .pointer Q] 145
 rw [es] at H1
 clear es
 go_enter Tryd.func101, Tryd.ntmps101
 go_wp2_with fail
 generalize w.heap.size + 1 = g2 at H1 ⊢
 generalize w.heap.size = g1 at H1 ⊢
 generalize (w.alloc _).alloc _ = w1 at H1 ⊢
 have c1 := H1.cell 0 rfl 0
 have c2 := H1.cell 1 rfl 0
 simp only [List.getElem?_cons_zero] at c1 c2
 refine (HC.out _).mono ?_
 rintro _ _ ⟨rfl, rfl⟩
 go_wp2_with fail
 go_ret
 exact ⟨rfl, H1.pick 2 []⟩
end Go.Proofs.YtiogaejfcenooaaDoor

