/- HuffMinC: no other lengths cost less. Nothing of the model. -/
import Derived.Test.YtdlbhoedmaifpaaHuffMinB
namespace Go.Proofs.Ytdlbhoedmaifpaa
set_option linter.unusedVariables false
set_option linter.unusedSimpArgs false
namespace PL
def under (q : Nat) (p : Pk) : Nat := q - p.1
theorem dual_len (l : List Pk) (q : Nat) : l.length * q ≤ wt Prod.fst l + wt (under q) l := by
  induction l with
  | nil => simp
  | cons p l ih =>
    show (l.length + 1) * q ≤ (p.1 + wt Prod.fst l) + ((q - p.1) + wt (under q) l)
    rw [Nat.succ_mul]; omega
theorem dual_ge (l : List Pk) (q a : Nat) (h : a ≤ l.length) : a * q ≤ wt Prod.fst (l.take a) + wt (under q) l := by
  have h1 := dual_len (l.take a) q
  rw [List.length_take, Nat.min_eq_left h] at h1
  have h2 := wt_take (under q) l a
  omega
theorem dual_low (l : List Pk) (q : Nat) (h : ∀ p ∈ l, p.1 ≤ q) : wt Prod.fst l + wt (under q) l = l.length * q := by
  induction l with
  | nil => simp [wt]
  | cons p l ih =>
    have h1 := ih fun x hx => h x (List.mem_cons_of_mem _ hx)
    have h2 := h p (List.mem_cons_self ..)
    show (p.1 + wt Prod.fst l) + ((q - p.1) + wt (under q) l) = (l.length + 1) * q
    rw [Nat.succ_mul]; omega
theorem dual_high (l : List Pk) (q : Nat) (h : ∀ p ∈ l, q ≤ p.1) : wt (under q) l = 0 := by
  induction l with
  | nil => rfl
  | cons p l ih =>
    have h1 := ih fun x hx => h x (List.mem_cons_of_mem _ hx)
    have h2 := h p (List.mem_cons_self ..)
    show (q - p.1) + wt (under q) l = 0
    omega
theorem dual_eq {l : List Pk} (hs : SS.Srt keyP l) (t : Nat) (h0 : 0 < t) (h : t ≤ l.length) : wt Prod.fst (l.take t) + wt (under (l.getD (t - 1) pk0).1) l = t * (l.getD (t - 1) pk0).1 := by
  obtain ⟨q, hq⟩ : ∃ q, (l.getD (t - 1) pk0).1 = q := ⟨_, rfl⟩
  rw [hq]
  have h1 := dual_low (l.take t) q (fun p hp => by rw [← hq]; exact (mem_take_le hs hp h).2)
  have h2 := dual_high (l.drop t) q (fun p hp => by
    obtain ⟨i, hi, rfl⟩ := List.getElem_of_mem hp
    rw [List.length_drop] at hi
    have := srt_getD hs (i := t - 1) (j := t + i) (by omega) (by omega)
    rw [hq, List.getD_eq_getElem?_getD, List.getElem?_eq_getElem (show t + i < l.length by omega)] at this
    rw [List.getElem_drop]
    exact this)
  have h3 := wt_append (under q) (l.take t) (l.drop t)
  rw [List.take_append_drop] at h3
  rw [List.length_take, Nat.min_eq_left h] at h1
  omega
theorem take_least {A B M : List Pk} (hM : SS.Srt keyP M) (hf : ∀ f, wt f M = wt f A + wt f B) (hl : M.length = A.length + B.length) (a b : Nat) (ha : a ≤ A.length) (hb : b ≤ B.length) : wt Prod.fst (M.take (a + b)) ≤ wt Prod.fst (A.take a) + wt Prod.fst (B.take b) := by
  rcases Nat.eq_zero_or_pos (a + b) with h0 | h0
  · rw [h0, List.take_zero]; exact Nat.zero_le _
  · have h1 := dual_eq hM (a + b) h0 (by omega)
    obtain ⟨q, hq⟩ : ∃ q, (M.getD (a + b - 1) pk0).1 = q := ⟨_, rfl⟩
    rw [hq, hf] at h1
    have h2 := dual_ge A q a ha
    have h3 := dual_ge B q b hb
    rw [Nat.add_mul] at h1
    omega
theorem least_cut (it : List Pk) (hs : SS.isort keyP it = it) (i : Nat) (cl : List Nat) (hl : cl.length = i + 1) (hk : ∀ c ∈ cl, c ≤ it.length) (t : Nat) (ht : t * 2 ^ i ≤ val cl) :
    t ≤ (lst it i).length ∧ wt Prod.fst ((lst it i).take t) ≤ (cl.map fun c => wt Prod.fst (it.take c)).sum := by
  induction i generalizing cl t with
  | zero =>
    match cl, hl with
    | [c], _ =>
      have hc := hk c (List.mem_singleton.2 rfl)
      have ht2 : t ≤ c := by simpa [val] using ht
      refine ⟨Nat.le_trans ht2 hc, ?_⟩
      show wt Prod.fst (it.take t) ≤ wt Prod.fst (it.take c) + 0
      have := wt_take Prod.fst (it.take c) t
      rw [List.take_take, Nat.min_eq_left ht2] at this
      omega
  | succ i ih =>
    match cl, hl with
    | c :: cl, hl =>
      have hl2 : cl.length = i + 1 := by rw [List.length_cons] at hl; omega
      have hc := hk c (List.mem_cons_self ..)
      have hM : SS.Srt keyP (lst it (i + 1)) := srt_lst hs _
      have hE : lst it (i + 1) = SS.mrg keyP it (pairs (lst it i)) := nxt_of hs _
      have hf : ∀ f, wt f (lst it (i + 1)) = wt f it + wt f (pairs (lst it i)) := fun f => by rw [hE, wt_mrg]
      have hlen : (lst it (i + 1)).length = it.length + (pairs (lst it i)).length := by rw [hE, SS.len_mrg]
      have hv : t * 2 ^ (i + 1) ≤ c * 2 ^ (i + 1) + val cl := by
        have : val (c :: cl) = c * 2 ^ cl.length + val cl := rfl
        rw [this, hl2] at ht
        exact ht
      show _ ∧ _ ≤ wt Prod.fst (it.take c) + (cl.map fun c => wt Prod.fst (it.take c)).sum
      rcases Nat.lt_or_ge c t with hct | hct
      · obtain ⟨d, rfl⟩ : ∃ d, t = c + d := ⟨t - c, by omega⟩
        have h1 : 2 * d * 2 ^ i ≤ val cl := by
          rw [Nat.add_mul] at hv
          have : 2 * d * 2 ^ i = d * 2 ^ (i + 1) := by rw [Nat.mul_comm 2, Nat.mul_assoc, Nat.mul_comm 2, ← Nat.pow_succ]
          omega
        obtain ⟨g1, g2⟩ := ih cl hl2 (fun x hx => hk x (List.mem_cons_of_mem _ hx)) (2 * d) h1
        have hd : d ≤ (lst it i).length / 2 := by omega
        have g3 := take_least hM hf hlen c d hc (by rw [pairs_len]; exact hd)
        rw [take_pairs _ _ hd, wt_pairsTo Prod.fst (fun _ _ => rfl) _ _ hd] at g3
        rw [pairs_len] at hlen
        exact ⟨by omega, by omega⟩
      · have g3 := take_least hM hf hlen t 0 (by omega) (Nat.zero_le _)
        rw [Nat.add_zero, List.take_zero] at g3
        have g4 := wt_take Prod.fst (it.take c) t
        rw [List.take_take, Nat.min_eq_left hct] at g4
        have : wt Prod.fst ([] : List Pk) = 0 := rfl
        exact ⟨by omega, by omega⟩
theorem wt_filter_le (f : Pk → Nat) (q : Pk → Bool) (l : List Pk) : wt f (l.filter q) ≤ wt f l := by
  induction l with
  | nil => exact Nat.le_refl _
  | cons p l ih =>
    rw [List.filter_cons]
    split
    · show f p + wt f _ ≤ f p + wt f l
      omega
    · show wt f _ ≤ f p + wt f l
      omega
theorem subset_ge {l : List Pk} (hs : SS.Srt keyP l) (q : Pk → Bool) : wt Prod.fst (l.take (l.countP q)) ≤ wt Prod.fst (l.filter q) := by
  rcases Nat.eq_zero_or_pos (l.countP q) with h0 | h0
  · rw [h0, List.take_zero]; exact Nat.zero_le _
  · have h1 := dual_eq hs _ h0 List.countP_le_length
    obtain ⟨c, hc⟩ : ∃ c, l.countP q = c := ⟨_, rfl⟩
    rw [hc] at h1 ⊢
    obtain ⟨z, hz⟩ : ∃ z, (l.getD (c - 1) pk0).1 = z := ⟨_, rfl⟩
    rw [hz] at h1
    have h2 := dual_len (l.filter q) z
    rw [← List.countP_eq_length_filter, hc] at h2
    have h3 := wt_filter_le (under z) q l
    omega
/-- How many have a length above b, above b + 1, and so on. -/
def th (it : List Pk) (o : Pk → Nat) : Nat → Nat → List Nat
  | 0, _ => []
  | m + 1, b => it.countP (fun p => decide (b < o p)) :: th it o m (b + 1)
theorem th_len (it : List Pk) (o : Pk → Nat) (m b : Nat) : (th it o m b).length = m := by
  induction m generalizing b with
  | zero => rfl
  | succ m ih => unfold th; rw [List.length_cons, ih]
theorem th_le (it : List Pk) (o : Pk → Nat) (m b : Nat) : ∀ c ∈ th it o m b, c ≤ it.length := by
  induction m generalizing b with
  | zero => intro c hc; cases hc
  | succ m ih =>
    intro c hc
    unfold th at hc
    rcases List.mem_cons.1 hc with rfl | hc
    · exact List.countP_le_length
    · exact ih _ c hc
theorem th_val (it : List Pk) (o : Pk → Nat) (m b : Nat) : val (th it o m b) + wt (fun p => 2 ^ (m - (o p - b))) it = it.length * 2 ^ m := by
  induction m generalizing b with
  | zero =>
    show 0 + wt (fun p => 2 ^ (0 - (o p - b))) it = _
    have : wt (fun p => 2 ^ (0 - (o p - b))) it = (it.map fun _ => 1).sum := by
      unfold wt
      congr 1
      exact List.map_congr_left fun p _ => by rw [Nat.zero_sub]
    rw [this, sum_const]; simp
  | succ m ih =>
    have h1 := ih (b + 1)
    show it.countP (fun p => decide (b < o p)) * 2 ^ (th it o m (b + 1)).length + val (th it o m (b + 1)) + _ = _
    rw [th_len]
    have key : ∀ l : List Pk, wt (fun p => 2 ^ (m + 1 - (o p - b))) l + l.countP (fun p => decide (b < o p)) * 2 ^ m = wt (fun p => 2 ^ (m - (o p - (b + 1)))) l + l.length * 2 ^ m := by
      intro l
      induction l with
      | nil => simp [wt]
      | cons p l ih =>
        show 2 ^ (m + 1 - (o p - b)) + wt (fun p => 2 ^ (m + 1 - (o p - b))) l + _ = 2 ^ (m - (o p - (b + 1))) + wt (fun p => 2 ^ (m - (o p - (b + 1)))) l + (l.length + 1) * 2 ^ m
        rw [Nat.succ_mul]
        by_cases h : b < o p
        · rw [List.countP_cons_of_pos (by simpa using h), Nat.succ_mul, show m + 1 - (o p - b) = m - (o p - (b + 1)) by omega]
          omega
        · rw [List.countP_cons_of_neg (by simpa using h), show m + 1 - (o p - b) = m + 1 by omega, show m - (o p - (b + 1)) = m by omega, Nat.pow_succ]
          omega
    have h2 := key it
    rw [Nat.pow_succ, ← Nat.mul_assoc]
    omega
theorem th_cost (it : List Pk) (hs : SS.Srt keyP it) (o : Pk → Nat) (m b : Nat) : ((th it o m b).map fun c => wt Prod.fst (it.take c)).sum ≤ wt (fun p => p.1 * (o p - b)) it := by
  induction m generalizing b with
  | zero => exact Nat.zero_le _
  | succ m ih =>
    have h1 := ih (b + 1)
    unfold th
    rw [List.map_cons, List.sum_cons]
    have h2 := subset_ge hs fun p => decide (b < o p)
    have key : ∀ l : List Pk, wt Prod.fst (l.filter fun p => decide (b < o p)) + wt (fun p => p.1 * (o p - (b + 1))) l = wt (fun p => p.1 * (o p - b)) l := by
      intro l
      induction l with
      | nil => rfl
      | cons p l ih =>
        rw [List.filter_cons]
        by_cases h : b < o p
        · rw [if_pos (by simpa using h)]
          show p.1 + wt Prod.fst _ + (p.1 * (o p - (b + 1)) + wt (fun p => p.1 * (o p - (b + 1))) l) = p.1 * (o p - b) + wt (fun p => p.1 * (o p - b)) l
          have : p.1 * (o p - b) = p.1 * (o p - (b + 1)) + p.1 := by rw [← Nat.mul_succ]; congr 1; omega
          omega
        · rw [if_neg (by simpa using h)]
          show wt Prod.fst _ + (p.1 * (o p - (b + 1)) + wt (fun p => p.1 * (o p - (b + 1))) l) = p.1 * (o p - b) + wt (fun p => p.1 * (o p - b)) l
          rw [show o p - (b + 1) = 0 by omega, show o p - b = 0 by omega, Nat.mul_zero]
          omega
    have := key it
    omega
theorem wt_congr {f g : Pk → Nat} {l : List Pk} (h : ∀ p ∈ l, f p = g p) : wt f l = wt g l := by
  unfold wt; congr 1; exact List.map_congr_left h
theorem wt_mono {f g : Pk → Nat} {l : List Pk} (h : ∀ p ∈ l, f p ≤ g p) : wt f l ≤ wt g l := by
  induction l with
  | nil => exact Nat.le_refl _
  | cons p l ih =>
    have h1 := h p (List.mem_cons_self ..)
    have h2 := ih fun x hx => h x (List.mem_cons_of_mem _ hx)
    show f p + wt f l ≤ g p + wt g l
    omega
/-- What lengths cost, by the items. -/
theorem cost_items (cs ls : List Nat) : costTo cs ls cs.length = wt (fun p => p.1 * ls.getD (symP p) 0) (sorted cs) := by
  rw [wt_sorted]
  unfold costTo
  congr 1
  refine List.map_congr_left fun z _ => ?_
  split
  · rfl
  · rename_i h
    rw [show cs.getD z 0 = 0 by omega, Nat.zero_mul]
theorem wt_take_range (f : Pk → Nat) (l : List Pk) (a : Nat) (h : a ≤ l.length) : wt f (l.take a) = ((List.range l.length).map fun r => if r < a then f (l.getD r pk0) else 0).sum := by
  induction l generalizing a with
  | nil => simp [wt]
  | cons p l ih =>
    rw [List.length_cons, List.range_succ_eq_map, List.map_cons, List.sum_cons, List.map_map]
    cases a with
    | zero =>
      rw [List.take_zero, if_neg (by omega)]
      have : (List.range l.length).map ((fun r => if r < 0 then f ((p :: l).getD r pk0) else 0) ∘ Nat.succ) = (List.range l.length).map fun _ => 0 := List.map_congr_left fun r _ => rfl
      rw [this, sum_const, Nat.mul_zero]; rfl
    | succ a =>
      rw [List.take_succ_cons, if_pos (by omega)]
      show f p + wt f (l.take a) = f p + _
      rw [ih a (by rw [List.length_cons] at h; omega)]
      congr 2
      refine List.map_congr_left fun r _ => ?_
      show _ = if r + 1 < a + 1 then f ((p :: l).getD (r + 1) pk0) else 0
      by_cases hr : r < a
      · rw [if_pos hr, if_pos (by omega)]; rfl
      · rw [if_neg hr, if_neg (by omega)]
theorem cost_ranks (f : Pk → Nat) (l : List Pk) (us : List Nat) (h : ∀ a ∈ us, a ≤ l.length) : (us.map fun a => wt f (l.take a)).sum = ((List.range l.length).map fun r => f (l.getD r pk0) * ranks us r).sum := by
  induction us with
  | nil =>
    show 0 = ((List.range l.length).map fun r => f (l.getD r pk0) * 0).sum
    have : ((List.range l.length).map fun r => f (l.getD r pk0) * 0) = (List.range l.length).map fun _ => 0 := List.map_congr_left fun r _ => Nat.mul_zero _
    rw [this, sum_const, Nat.mul_zero]
  | cons a us ih =>
    rw [List.map_cons, List.sum_cons, ih fun x hx => h x (List.mem_cons_of_mem _ hx), wt_take_range f l a (h a (List.mem_cons_self ..)), ← sum_add]
    congr 1
    refine List.map_congr_left fun r _ => ?_
    unfold ranks
    by_cases hr : r < a
    · rw [if_pos hr, List.countP_cons_of_pos (by simpa using hr), Nat.mul_succ]; omega
    · rw [if_neg hr, List.countP_cons_of_neg (by simpa using hr)]; omega
theorem cost_taken (cs : List Nat) (m : Nat) (hm : 1 ≤ m) (hk : (items cs).length ≤ 2 ^ m) : costTo cs (lens cs m) cs.length = wt Prod.fst (taken cs m) := by
  obtain ⟨us, h1, h2, h3, h4, h5⟩ := shape cs m hm hk
  rw [cost_items, h3 Prod.fst (fun _ _ => rfl), cost_ranks _ _ _ h1, wt_range]
  congr 1
  refine List.map_congr_left fun r hr => ?_
  have := lens_rank h3 r (List.mem_range.1 hr)
  unfold sym at this
  rw [this]
/-- THE THEOREM: no other lengths cost less. -/
theorem least (cs other : List Nat) (m : Nat) (hm : 1 ≤ m) (h15 : m ≤ 15) (hk : (items cs).length ≤ 2 ^ m) (hl : other.length = cs.length) (ho : ∀ z, z < cs.length → (0 < cs.getD z 0 → 1 ≤ other.getD z 0 ∧ other.getD z 0 ≤ m) ∧ (cs.getD z 0 = 0 → other.getD z 0 = 0)) (hs : PH.sum other ≤ 32768) :
    costTo cs (lens cs m) cs.length ≤ costTo cs other cs.length := by
  rw [cost_taken cs m hm hk, cost_items]
  have hin : ∀ p ∈ sorted cs, 1 ≤ other.getD (symP p) 0 ∧ other.getD (symP p) 0 ≤ m := fun p hp => by
    obtain ⟨z, h1, h2, rfl⟩ := mem_sorted.1 hp
    exact (ho z h1).1 h2
  by_cases h2 : (items cs).length < 2
  · unfold taken
    rw [if_pos h2]
    have : wt Prod.fst (items cs) = wt Prod.fst (sorted cs) := by unfold sorted; rw [wt_isort]
    rw [this]
    exact wt_mono fun p hp => Nat.le_mul_of_pos_right _ (hin p hp).1
  · unfold taken
    rw [if_neg h2]
    obtain ⟨q, rfl⟩ : ∃ q, m = q + 1 := ⟨m - 1, by omega⟩
    have h3 := units_of cs other hl (fun z hz => (ho z hz).2)
    rw [h3] at hs
    have h4 : wt (fun p => unit (other.getD (symP p) 0)) (sorted cs) = 2 ^ (15 - (q + 1)) * wt (fun p => 2 ^ (q + 1 - other.getD (symP p) 0)) (sorted cs) := by
      have e3 : ∀ (l : List Pk) (c : Nat) (f : Pk → Nat), wt (fun p => c * f p) l = c * wt f l := by
        intro l c f
        induction l with
        | nil => rfl
        | cons x l ih =>
          show c * f x + wt (fun p => c * f p) l = c * (f x + wt f l)
          rw [ih, Nat.mul_add]
      rw [← e3]
      refine wt_congr fun p hp => ?_
      have := hin p hp
      unfold unit
      rw [if_pos (by omega), ← Nat.pow_add]
      congr 1
      omega
    have h5 : wt (fun p => 2 ^ (q + 1 - other.getD (symP p) 0)) (sorted cs) ≤ 2 ^ (q + 1) := by
      have h6 : (2 : Nat) ^ (15 - (q + 1)) * 2 ^ (q + 1) = 32768 := by rw [← Nat.pow_add, show 15 - (q + 1) + (q + 1) = 15 by omega]
      rw [h4, ← h6] at hs
      exact Nat.le_of_mul_le_mul_left hs (Nat.pow_pos (by omega))
    have h7 := th_val (sorted cs) (fun p => other.getD (symP p) 0) (q + 1) 0
    have h8 : wt (fun p => 2 ^ (q + 1 - (other.getD (symP p) 0 - 0))) (sorted cs) = wt (fun p => 2 ^ (q + 1 - other.getD (symP p) 0)) (sorted cs) := rfl
    have h9 : (2 * (items cs).length - 2) * 2 ^ q + 2 ^ (q + 1) = (sorted cs).length * 2 ^ (q + 1) := by
      rw [len_sorted]
      obtain ⟨k, hk2⟩ : ∃ k, (items cs).length = k + 1 := ⟨(items cs).length - 1, by omega⟩
      rw [hk2, show 2 * (k + 1) - 2 = k * 2 by omega, Nat.mul_assoc, Nat.mul_comm 2, ← Nat.pow_succ, Nat.succ_mul]
    have h10 := (least_cut (sorted cs) (isort_sorted cs) q (th (sorted cs) (fun p => other.getD (symP p) 0) (q + 1) 0) (th_len _ _ _ _) (th_le _ _ _ _) (2 * (items cs).length - 2) (by
      have h7b : val (th (sorted cs) (fun p => other.getD (symP p) 0) (q + 1) 0) + wt (fun p => 2 ^ (q + 1 - other.getD (symP p) 0)) (sorted cs) = (sorted cs).length * 2 ^ (q + 1) := h7
      omega)).2
    have h11 := th_cost (sorted cs) (srt_lst (isort_sorted cs) 0) (fun p => other.getD (symP p) 0) (q + 1) 0
    exact Nat.le_trans h10 h11
end PL
end Go.Proofs.Ytdlbhoedmaifpaa
